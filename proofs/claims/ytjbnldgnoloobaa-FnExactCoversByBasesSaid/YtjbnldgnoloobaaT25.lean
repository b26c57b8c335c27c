import Derived.Test.YtjbnldgnoloobaaT21
set_option linter.unusedSimpArgs false
set_option linter.unusedVariables false
set_option maxHeartbeats 2000000
namespace Go.Proofs.Ytjbnldgnoloobaa
open Go Go.Ab
attribute [local irreducible] aol
attribute [local irreducible] popN


theorem popN_le (x : Nat) : popN x ≤ 62 := by unfold popN; exact popF_le 62 x
def cvF (l : List Int) (s : Nat) : Int := RowKit.wrap64 (((popN s : Int) + l.getD s 0 - 1).tdiv (l.getD s 0))
def cvM (l : List Int) : Nat → Int
  | 0 => 0
  | k + 1 => if k = 0 then 0 else if cvM l k < cvF l k then cvF l k else cvM l k
theorem cvM_1 (l : List Int) : cvM l 1 = 0 := rfl
theorem cvM_succ {l : List Int} {k : Nat} (h : 1 ≤ k) : cvM l (k + 1) = if cvM l k < cvF l k then cvF l k else cvM l k := if_neg (by omega)
def cvB (l : List Int) : Bool := (List.range l.length).all fun s => decide (s = 0) || !decide (l.getD s 0 = 0)
def okC (n : Int) (l : List Int) : Bool := matV n l && cvB l
def tCov : Tab
  | [.ag [.i n, .sl .i64 l]] => some (True, .tu [.i (or0 (okC n l) (cvM l l.length)), .b (okC n l)], [])
  | _ => none
theorem implCov_ok : Fits Try.prog 18 tCov := by
  refine ⟨callable_of Try.func18 (by kernel_rfl) rfl, ?_⟩
  intro args p out Ho h hp
  unfold tCov at h
  split at h <;> cases h
  rename_i n l
  refine ⟨acall_by (env_ok (env := [(56, tIsMat), (57, tSize)]) (by simp only [List.forall_mem_cons, List.not_mem_nil, false_implies, implies_true, and_true]; exact ⟨implIsMat_ok, sizeOf_ok⟩)) Try.func18 rfl rfl rfl rfl rfl ?_, rfl, rfl⟩
  intro hlen c hc hX
  simp only [lensOk, AV.lenOk, true_and, and_true] at hlen
  simp only [Try.ntmps18, Try.results18, List.length_cons, List.length_nil, List.replicate, List.cons_append, List.nil_append, Nat.reduceAdd, Nat.reduceSub]
  cases hg : matV n l with
  | false =>
    have hok : okC n l = false := by rw [okC, hg, Bool.false_and]
    rw [hok]
    repeat' first
      | ((with_reducible show aol _ _ _ _ _); first
          | (refine aol_guard_f (by rfl) ?_ ?_; (focus (simp only [go_sem]; done)))
          | (refine aol_guard_un (by rfl) ?_ ?_; (focus (simp only [go_sem]; done)))
          | (refine aol_guard_t (by rfl) ?_ ?_; (focus (simp only [go_sem]; done)); simp (config := { maxSteps := 2000000 }) (disch := omega) only [go_sem, ↓reduceIte, Nat.reduceEqDiff, Nat.reduceAdd, Nat.reduceLT, Nat.reduceLeDiff, Nat.reduceSub, tIsMat, hg])
          | (refine aol_guard_b (by rfl) (by rfl) (fun h => ?_) (fun h => ?_) <;> (try simp only [Bool.and_eq_true, Bool.and_eq_false_iff, Bool.or_eq_true, Bool.or_eq_false_iff, List.all_cons, List.all_nil, Bool.and_true, beq_self_eq_true, beq_iff_eq, beq_eq_false_iff_ne, ne_eq, decide_true, decide_false, not_true_eq_false, not_false_eq_true, decide_eq_true_eq, decide_eq_false_iff_not, Bool.not_true, Bool.not_false, Bool.not_eq_true', Bool.not_eq_false', Int.not_le, Int.not_lt, reduceCtorEq, inR_iff, inR_not, isSet_iff, isSet_not] at h) <;> simp (config := { maxSteps := 2000000 }) (disch := omega) only [go_sem, ↓reduceIte, Nat.reduceEqDiff, Nat.reduceAdd, Nat.reduceLT, Nat.reduceLeDiff, Nat.reduceSub, tIsMat, hg])
          | simp (config := { maxSteps := 2000000 }) (disch := omega) only [go_sem, ↓reduceIte, Nat.reduceEqDiff, Nat.reduceAdd, Nat.reduceLT, Nat.reduceLeDiff, Nat.reduceSub, tIsMat, hg])
      | ((with_reducible refine hK _ ?_); clear hK K; try simp only [thn_n, blk_n, fin_n, finm_n])
      | (with_reducible refine awp_seq fun K hK => ?_)
      | ((with_reducible show Awp _ _ (Code.region _ _ _) _ _); first
          | (refine awp_regK (by repeat constructor) (fun K hK => ?_); simp (config := { maxSteps := 2000000 }) (disch := omega) only [go_sem, ↓reduceIte, Nat.reduceEqDiff, Nat.reduceAdd, Nat.reduceLT, Nat.reduceLeDiff, Nat.reduceSub, tIsMat, hg])
          | (refine awp_drwK (by kernel_rfl) (by repeat constructor) (fun K hK => ?_); simp (config := { maxSteps := 2000000 }) (disch := omega) only [go_sem, ↓reduceIte, Nat.reduceEqDiff, Nat.reduceAdd, Nat.reduceLT, Nat.reduceLeDiff, Nat.reduceSub, tIsMat, hg]))
      | ((with_reducible show Awp _ _ (Code.cond _ _ _) _ _); refine awp_cond rfl (fun h => ?_) (fun h => ?_) <;> (try simp only [Bool.and_eq_true, Bool.and_eq_false_iff, Bool.or_eq_true, Bool.or_eq_false_iff, List.all_cons, List.all_nil, Bool.and_true, beq_self_eq_true, beq_iff_eq, beq_eq_false_iff_ne, ne_eq, decide_true, decide_false, not_true_eq_false, not_false_eq_true, decide_eq_true_eq, decide_eq_false_iff_not, Bool.not_true, Bool.not_false, Bool.not_eq_true', Bool.not_eq_false', Int.not_le, Int.not_lt, reduceCtorEq, inR_iff, inR_not, isSet_iff, isSet_not] at h))
      | ((with_reducible refine awp_skip ?_); simp only [thn_n, blk_n, fin_n, finm_n])
      | ((with_reducible refine awp_ret ?_); simp only [thn_r, blk_r, fin_r, finm_r])
      | (with_reducible refine awp_block ?_)
      | ((with_reducible refine awp_exit ?_); simp only [thn_e, blk_e, blk_x, blk_n, thn_n, ne_eq, not_false_eq_true, Nat.reduceEqDiff, reduceCtorEq]; first | (refine hK _ ?_; clear hK K) | (clear hK K; refine hK _ ?_; clear hK K) | (clear hK K; clear hK K; refine hK _ ?_; clear hK K) | (clear hK K; clear hK K; clear hK K; refine hK _ ?_; clear hK K) | skip)
      | (with_reducible apply And.intro)
      | (with_reducible exact True.intro)
      | ((with_reducible show List.all _ _ = true); rfl)
      | ((with_reducible show lendOk _ _ = true); rfl)
      | omega
      | ((first | (with_reducible show ¬ _) | (with_reducible show _ → _)); intro h; first | contradiction | cases h; done | skip)
    all_goals (try (first | refine fin_keep ?_ | refine finm_keep ?_; repeat clear hK))
    exact fin_tmp2 rfl rfl rfl
  | true =>
    have hf := fnV_iff.1 (mat_fn hg)
    have hlen2 := fnV_len (mat_fn hg)
    have hp6 : 2 ^ n.toNat ≤ 32 := Nat.le_trans (Nat.pow_le_pow_right (by omega) (show n.toNat ≤ 5 by omega)) (by decide)
    have hp1 := Nat.two_pow_pos n.toNat
    repeat' first
      | ((with_reducible show aol _ _ _ _ _); first
          | (refine aol_guard_f (by rfl) ?_ ?_; (focus (simp only [go_sem]; done)))
          | (refine aol_guard_un (by rfl) ?_ ?_; (focus (simp only [go_sem]; done)))
          | (refine aol_guard_t (by rfl) ?_ ?_; (focus (simp only [go_sem]; done)); simp (config := { maxSteps := 2000000 }) (disch := omega) only [go_sem, ↓reduceIte, Nat.reduceEqDiff, Nat.reduceAdd, Nat.reduceLT, Nat.reduceLeDiff, Nat.reduceSub, tIsMat, hg])
          | (refine aol_guard_b (by rfl) (by rfl) (fun h => ?_) (fun h => ?_) <;> (try simp only [Bool.and_eq_true, Bool.and_eq_false_iff, Bool.or_eq_true, Bool.or_eq_false_iff, List.all_cons, List.all_nil, Bool.and_true, beq_self_eq_true, beq_iff_eq, beq_eq_false_iff_ne, ne_eq, decide_true, decide_false, not_true_eq_false, not_false_eq_true, decide_eq_true_eq, decide_eq_false_iff_not, Bool.not_true, Bool.not_false, Bool.not_eq_true', Bool.not_eq_false', Int.not_le, Int.not_lt, reduceCtorEq, inR_iff, inR_not, isSet_iff, isSet_not] at h) <;> simp (config := { maxSteps := 2000000 }) (disch := omega) only [go_sem, ↓reduceIte, Nat.reduceEqDiff, Nat.reduceAdd, Nat.reduceLT, Nat.reduceLeDiff, Nat.reduceSub, tIsMat, hg])
          | simp (config := { maxSteps := 2000000 }) (disch := omega) only [go_sem, ↓reduceIte, Nat.reduceEqDiff, Nat.reduceAdd, Nat.reduceLT, Nat.reduceLeDiff, Nat.reduceSub, tIsMat, hg])
      | ((with_reducible refine hK _ ?_); clear hK K; try simp only [thn_n, blk_n, fin_n, finm_n])
      | (with_reducible refine awp_seq fun K hK => ?_)
      | ((with_reducible show Awp _ _ (Code.region _ _ _) _ _); first
          | (refine awp_regK (by repeat constructor) (fun K hK => ?_); simp (config := { maxSteps := 2000000 }) (disch := omega) only [go_sem, ↓reduceIte, Nat.reduceEqDiff, Nat.reduceAdd, Nat.reduceLT, Nat.reduceLeDiff, Nat.reduceSub, tIsMat, hg])
          | (refine awp_drwK (by kernel_rfl) (by repeat constructor) (fun K hK => ?_); simp (config := { maxSteps := 2000000 }) (disch := omega) only [go_sem, ↓reduceIte, Nat.reduceEqDiff, Nat.reduceAdd, Nat.reduceLT, Nat.reduceLeDiff, Nat.reduceSub, tIsMat, hg]))
      | ((with_reducible show Awp _ _ (Code.cond _ _ _) _ _); refine awp_cond rfl (fun h => ?_) (fun h => ?_) <;> (try simp only [Bool.and_eq_true, Bool.and_eq_false_iff, Bool.or_eq_true, Bool.or_eq_false_iff, List.all_cons, List.all_nil, Bool.and_true, beq_self_eq_true, beq_iff_eq, beq_eq_false_iff_ne, ne_eq, decide_true, decide_false, not_true_eq_false, not_false_eq_true, decide_eq_true_eq, decide_eq_false_iff_not, Bool.not_true, Bool.not_false, Bool.not_eq_true', Bool.not_eq_false', Int.not_le, Int.not_lt, reduceCtorEq, inR_iff, inR_not, isSet_iff, isSet_not] at h))
      | ((with_reducible refine awp_skip ?_); simp only [thn_n, blk_n, fin_n, finm_n])
      | ((with_reducible refine awp_ret ?_); simp only [thn_r, blk_r, fin_r, finm_r])
      | (with_reducible refine awp_block ?_)
      | ((with_reducible refine awp_exit ?_); simp only [thn_e, blk_e, blk_x, blk_n, thn_n, ne_eq, not_false_eq_true, Nat.reduceEqDiff, reduceCtorEq]; first | (refine hK _ ?_; clear hK K) | (clear hK K; refine hK _ ?_; clear hK K) | (clear hK K; clear hK K; refine hK _ ?_; clear hK K) | (clear hK K; clear hK K; clear hK K; refine hK _ ?_; clear hK K) | skip)
      | (with_reducible apply And.intro)
      | (with_reducible exact True.intro)
      | ((with_reducible show List.all _ _ = true); rfl)
      | ((with_reducible show lendOk _ _ = true); rfl)
      | omega
      | ((first | (with_reducible show ¬ _) | (with_reducible show _ → _)); intro h; first | contradiction | cases h; done | skip)
    all_goals (try (first | refine fin_keep ?_ | refine finm_keep ?_; repeat clear hK))
    refine awp_for (fun st (k : Nat) => st.at [1] [(4, .i (cvM l k)), (5, .i k)] st.hp) (fun k => (1 ≤ k ∧ k ≤ l.length) ∧ (List.range k).all (fun s => decide (s = 0) || !decide (l.getD s 0 = 0)) = true) (fun k => l.length - k) 1 ⟨by omega, by simp⟩ ?_ ?_
    · simp [-List.getD_eq_getElem?_getD, -List.length_take, Le, leFr, ASt.at, keepFr, updAll, upd_zero, upd_succ, cvM_1]
    rintro k ⟨hk, ha⟩
    simp only [ASt.at, keepFr, updAll, upd_zero, upd_succ, List.mem_cons, List.not_mem_nil, Nat.reduceEqDiff, Nat.reduceAdd, or_false, or_true, false_or, true_or, ↓reduceIte, eq_self]
    have hpn := popN_le k
    have hb := getD_bd hf.2.2 k
    have hF : RowKit.wrap64 (((popN k : Int) + l.getD k 0 - 1).tdiv (l.getD k 0)) = cvF l k := rfl
    repeat' first
      | ((with_reducible show aol _ _ _ _ _); first
          | (refine aol_guard_f (by rfl) ?_ ?_; (focus (simp only [go_sem]; done)))
          | (refine aol_guard_un (by rfl) ?_ ?_; (focus (simp only [go_sem]; done)))
          | (refine aol_guard_t (by rfl) ?_ ?_; (focus (simp only [go_sem]; done)); simp (config := { maxSteps := 2000000 }) (disch := omega) only [go_sem, ↓reduceIte, Nat.reduceEqDiff, Nat.reduceAdd, Nat.reduceLT, Nat.reduceLeDiff, Nat.reduceSub, tSize, hF])
          | (refine aol_guard_b (by rfl) (by rfl) (fun h => ?_) (fun h => ?_) <;> (try simp only [Bool.and_eq_true, Bool.and_eq_false_iff, Bool.or_eq_true, Bool.or_eq_false_iff, List.all_cons, List.all_nil, Bool.and_true, beq_self_eq_true, beq_iff_eq, beq_eq_false_iff_ne, ne_eq, decide_true, decide_false, not_true_eq_false, not_false_eq_true, decide_eq_true_eq, decide_eq_false_iff_not, Bool.not_true, Bool.not_false, Bool.not_eq_true', Bool.not_eq_false', Int.not_le, Int.not_lt, reduceCtorEq, inR_iff, inR_not, isSet_iff, isSet_not] at h) <;> simp (config := { maxSteps := 2000000 }) (disch := omega) only [go_sem, ↓reduceIte, Nat.reduceEqDiff, Nat.reduceAdd, Nat.reduceLT, Nat.reduceLeDiff, Nat.reduceSub, tSize, hF])
          | simp (config := { maxSteps := 2000000 }) (disch := omega) only [go_sem, ↓reduceIte, Nat.reduceEqDiff, Nat.reduceAdd, Nat.reduceLT, Nat.reduceLeDiff, Nat.reduceSub, tSize, hF])
      | ((with_reducible refine hK _ ?_); clear hK K; try simp only [thn_n, blk_n, fin_n, finm_n])
      | (with_reducible refine awp_seq fun K hK => ?_)
      | ((with_reducible show Awp _ _ (Code.region _ _ _) _ _); first
          | (refine awp_regK (by repeat constructor) (fun K hK => ?_); simp (config := { maxSteps := 2000000 }) (disch := omega) only [go_sem, ↓reduceIte, Nat.reduceEqDiff, Nat.reduceAdd, Nat.reduceLT, Nat.reduceLeDiff, Nat.reduceSub, tSize, hF])
          | (refine awp_drwK (by kernel_rfl) (by repeat constructor) (fun K hK => ?_); simp (config := { maxSteps := 2000000 }) (disch := omega) only [go_sem, ↓reduceIte, Nat.reduceEqDiff, Nat.reduceAdd, Nat.reduceLT, Nat.reduceLeDiff, Nat.reduceSub, tSize, hF]))
      | ((with_reducible show Awp _ _ (Code.cond _ _ _) _ _); refine awp_cond rfl (fun h => ?_) (fun h => ?_) <;> (try simp only [Bool.and_eq_true, Bool.and_eq_false_iff, Bool.or_eq_true, Bool.or_eq_false_iff, List.all_cons, List.all_nil, Bool.and_true, beq_self_eq_true, beq_iff_eq, beq_eq_false_iff_ne, ne_eq, decide_true, decide_false, not_true_eq_false, not_false_eq_true, decide_eq_true_eq, decide_eq_false_iff_not, Bool.not_true, Bool.not_false, Bool.not_eq_true', Bool.not_eq_false', Int.not_le, Int.not_lt, reduceCtorEq, inR_iff, inR_not, isSet_iff, isSet_not] at h))
      | ((with_reducible refine awp_skip ?_); simp only [thn_n, blk_n, fin_n, finm_n])
      | ((with_reducible refine awp_ret ?_); simp only [thn_r, blk_r, fin_r, finm_r])
      | (with_reducible refine awp_block ?_)
      | ((with_reducible refine awp_exit ?_); simp only [thn_e, blk_e, blk_x, blk_n, thn_n, ne_eq, not_false_eq_true, Nat.reduceEqDiff, reduceCtorEq]; first | (refine hK _ ?_; clear hK K) | (clear hK K; refine hK _ ?_; clear hK K) | (clear hK K; clear hK K; refine hK _ ?_; clear hK K) | (clear hK K; clear hK K; clear hK K; refine hK _ ?_; clear hK K) | skip)
      | (with_reducible apply And.intro)
      | (with_reducible exact True.intro)
      | ((with_reducible show List.all _ _ = true); rfl)
      | ((with_reducible show lendOk _ _ = true); rfl)
      | omega
      | ((first | (with_reducible show ¬ _) | (with_reducible show _ → _)); intro h; first | contradiction | cases h; done | skip)
    all_goals (try (first | refine fin_keep ?_ | refine finm_keep ?_; repeat clear hK))
    · have hok : okC n l = false := by rw [okC, cvB, allR_no (k := k) (by omega) (by rw [decide_eq_true h, decide_eq_false (by omega)]; rfl), Bool.and_false]
      rw [hok]; exact fin_tmp2 rfl rfl rfl
    · have e := cvM_succ (l := l) hk.1
      refine ⟨k + 1, ⟨by omega, allR_succ ha (by rw [decide_eq_false h, decide_eq_false (by omega)]; rfl)⟩, by omega, ?_⟩
      simp [-List.getD_eq_getElem?_getD, -List.length_take, Le, leFr, ASt.at, keepFr, updAll, upd_zero, upd_succ, e]
    · obtain rfl : k = l.length := by omega
      have hok : okC n l = true := by rw [okC, hg, cvB, ha]; rfl
      rw [hok]; exact fin_tmp2 rfl rfl rfl
theorem specCov_ok : Fits Try.prog 16 tCov := by
  refine ⟨callable_of Try.func16 (by kernel_rfl) rfl, ?_⟩
  intro args p out Ho h hp
  unfold tCov at h
  split at h <;> cases h
  rename_i n l
  refine ⟨acall_by (env_ok (env := [(53, tIsMat), (54, tSize2)]) (by simp only [List.forall_mem_cons, List.not_mem_nil, false_implies, implies_true, and_true]; exact ⟨specIsMat_ok, size2_ok⟩)) Try.func16 rfl rfl rfl rfl rfl ?_, rfl, rfl⟩
  intro hlen c hc hX
  simp only [lensOk, AV.lenOk, true_and, and_true] at hlen
  simp only [Try.ntmps16, Try.results16, List.length_cons, List.length_nil, List.replicate, List.cons_append, List.nil_append, Nat.reduceAdd, Nat.reduceSub]
  cases hg : matV n l with
  | false =>
    have hok : okC n l = false := by rw [okC, hg, Bool.false_and]
    rw [hok]
    repeat' first
      | ((with_reducible show aol _ _ _ _ _); first
          | (refine aol_guard_f (by rfl) ?_ ?_; (focus (simp only [go_sem]; done)))
          | (refine aol_guard_un (by rfl) ?_ ?_; (focus (simp only [go_sem]; done)))
          | (refine aol_guard_t (by rfl) ?_ ?_; (focus (simp only [go_sem]; done)); simp (config := { maxSteps := 2000000 }) (disch := omega) only [go_sem, ↓reduceIte, Nat.reduceEqDiff, Nat.reduceAdd, Nat.reduceLT, Nat.reduceLeDiff, Nat.reduceSub, tIsMat, hg])
          | (refine aol_guard_b (by rfl) (by rfl) (fun h => ?_) (fun h => ?_) <;> (try simp only [Bool.and_eq_true, Bool.and_eq_false_iff, Bool.or_eq_true, Bool.or_eq_false_iff, List.all_cons, List.all_nil, Bool.and_true, beq_self_eq_true, beq_iff_eq, beq_eq_false_iff_ne, ne_eq, decide_true, decide_false, not_true_eq_false, not_false_eq_true, decide_eq_true_eq, decide_eq_false_iff_not, Bool.not_true, Bool.not_false, Bool.not_eq_true', Bool.not_eq_false', Int.not_le, Int.not_lt, reduceCtorEq, inR_iff, inR_not, isSet_iff, isSet_not] at h) <;> simp (config := { maxSteps := 2000000 }) (disch := omega) only [go_sem, ↓reduceIte, Nat.reduceEqDiff, Nat.reduceAdd, Nat.reduceLT, Nat.reduceLeDiff, Nat.reduceSub, tIsMat, hg])
          | simp (config := { maxSteps := 2000000 }) (disch := omega) only [go_sem, ↓reduceIte, Nat.reduceEqDiff, Nat.reduceAdd, Nat.reduceLT, Nat.reduceLeDiff, Nat.reduceSub, tIsMat, hg])
      | ((with_reducible refine hK _ ?_); clear hK K; try simp only [thn_n, blk_n, fin_n, finm_n])
      | (with_reducible refine awp_seq fun K hK => ?_)
      | ((with_reducible show Awp _ _ (Code.region _ _ _) _ _); first
          | (refine awp_regK (by repeat constructor) (fun K hK => ?_); simp (config := { maxSteps := 2000000 }) (disch := omega) only [go_sem, ↓reduceIte, Nat.reduceEqDiff, Nat.reduceAdd, Nat.reduceLT, Nat.reduceLeDiff, Nat.reduceSub, tIsMat, hg])
          | (refine awp_drwK (by kernel_rfl) (by repeat constructor) (fun K hK => ?_); simp (config := { maxSteps := 2000000 }) (disch := omega) only [go_sem, ↓reduceIte, Nat.reduceEqDiff, Nat.reduceAdd, Nat.reduceLT, Nat.reduceLeDiff, Nat.reduceSub, tIsMat, hg]))
      | ((with_reducible show Awp _ _ (Code.cond _ _ _) _ _); refine awp_cond rfl (fun h => ?_) (fun h => ?_) <;> (try simp only [Bool.and_eq_true, Bool.and_eq_false_iff, Bool.or_eq_true, Bool.or_eq_false_iff, List.all_cons, List.all_nil, Bool.and_true, beq_self_eq_true, beq_iff_eq, beq_eq_false_iff_ne, ne_eq, decide_true, decide_false, not_true_eq_false, not_false_eq_true, decide_eq_true_eq, decide_eq_false_iff_not, Bool.not_true, Bool.not_false, Bool.not_eq_true', Bool.not_eq_false', Int.not_le, Int.not_lt, reduceCtorEq, inR_iff, inR_not, isSet_iff, isSet_not] at h))
      | ((with_reducible refine awp_skip ?_); simp only [thn_n, blk_n, fin_n, finm_n])
      | ((with_reducible refine awp_ret ?_); simp only [thn_r, blk_r, fin_r, finm_r])
      | (with_reducible refine awp_block ?_)
      | ((with_reducible refine awp_exit ?_); simp only [thn_e, blk_e, blk_x, blk_n, thn_n, ne_eq, not_false_eq_true, Nat.reduceEqDiff, reduceCtorEq]; first | (refine hK _ ?_; clear hK K) | (clear hK K; refine hK _ ?_; clear hK K) | (clear hK K; clear hK K; refine hK _ ?_; clear hK K) | (clear hK K; clear hK K; clear hK K; refine hK _ ?_; clear hK K) | skip)
      | (with_reducible apply And.intro)
      | (with_reducible exact True.intro)
      | ((with_reducible show List.all _ _ = true); rfl)
      | ((with_reducible show lendOk _ _ = true); rfl)
      | omega
      | ((first | (with_reducible show ¬ _) | (with_reducible show _ → _)); intro h; first | contradiction | cases h; done | skip)
    all_goals (try (first | refine fin_keep ?_ | refine finm_keep ?_; repeat clear hK))
    exact fin_tmp2 rfl rfl rfl
  | true =>
    have hf := fnV_iff.1 (mat_fn hg)
    have hlen2 := fnV_len (mat_fn hg)
    have hp6 : 2 ^ n.toNat ≤ 32 := Nat.le_trans (Nat.pow_le_pow_right (by omega) (show n.toNat ≤ 5 by omega)) (by decide)
    have hp1 := Nat.two_pow_pos n.toNat
    repeat' first
      | ((with_reducible show aol _ _ _ _ _); first
          | (refine aol_guard_f (by rfl) ?_ ?_; (focus (simp only [go_sem]; done)))
          | (refine aol_guard_un (by rfl) ?_ ?_; (focus (simp only [go_sem]; done)))
          | (refine aol_guard_t (by rfl) ?_ ?_; (focus (simp only [go_sem]; done)); simp (config := { maxSteps := 2000000 }) (disch := omega) only [go_sem, ↓reduceIte, Nat.reduceEqDiff, Nat.reduceAdd, Nat.reduceLT, Nat.reduceLeDiff, Nat.reduceSub, tIsMat, hg])
          | (refine aol_guard_b (by rfl) (by rfl) (fun h => ?_) (fun h => ?_) <;> (try simp only [Bool.and_eq_true, Bool.and_eq_false_iff, Bool.or_eq_true, Bool.or_eq_false_iff, List.all_cons, List.all_nil, Bool.and_true, beq_self_eq_true, beq_iff_eq, beq_eq_false_iff_ne, ne_eq, decide_true, decide_false, not_true_eq_false, not_false_eq_true, decide_eq_true_eq, decide_eq_false_iff_not, Bool.not_true, Bool.not_false, Bool.not_eq_true', Bool.not_eq_false', Int.not_le, Int.not_lt, reduceCtorEq, inR_iff, inR_not, isSet_iff, isSet_not] at h) <;> simp (config := { maxSteps := 2000000 }) (disch := omega) only [go_sem, ↓reduceIte, Nat.reduceEqDiff, Nat.reduceAdd, Nat.reduceLT, Nat.reduceLeDiff, Nat.reduceSub, tIsMat, hg])
          | simp (config := { maxSteps := 2000000 }) (disch := omega) only [go_sem, ↓reduceIte, Nat.reduceEqDiff, Nat.reduceAdd, Nat.reduceLT, Nat.reduceLeDiff, Nat.reduceSub, tIsMat, hg])
      | ((with_reducible refine hK _ ?_); clear hK K; try simp only [thn_n, blk_n, fin_n, finm_n])
      | (with_reducible refine awp_seq fun K hK => ?_)
      | ((with_reducible show Awp _ _ (Code.region _ _ _) _ _); first
          | (refine awp_regK (by repeat constructor) (fun K hK => ?_); simp (config := { maxSteps := 2000000 }) (disch := omega) only [go_sem, ↓reduceIte, Nat.reduceEqDiff, Nat.reduceAdd, Nat.reduceLT, Nat.reduceLeDiff, Nat.reduceSub, tIsMat, hg])
          | (refine awp_drwK (by kernel_rfl) (by repeat constructor) (fun K hK => ?_); simp (config := { maxSteps := 2000000 }) (disch := omega) only [go_sem, ↓reduceIte, Nat.reduceEqDiff, Nat.reduceAdd, Nat.reduceLT, Nat.reduceLeDiff, Nat.reduceSub, tIsMat, hg]))
      | ((with_reducible show Awp _ _ (Code.cond _ _ _) _ _); refine awp_cond rfl (fun h => ?_) (fun h => ?_) <;> (try simp only [Bool.and_eq_true, Bool.and_eq_false_iff, Bool.or_eq_true, Bool.or_eq_false_iff, List.all_cons, List.all_nil, Bool.and_true, beq_self_eq_true, beq_iff_eq, beq_eq_false_iff_ne, ne_eq, decide_true, decide_false, not_true_eq_false, not_false_eq_true, decide_eq_true_eq, decide_eq_false_iff_not, Bool.not_true, Bool.not_false, Bool.not_eq_true', Bool.not_eq_false', Int.not_le, Int.not_lt, reduceCtorEq, inR_iff, inR_not, isSet_iff, isSet_not] at h))
      | ((with_reducible refine awp_skip ?_); simp only [thn_n, blk_n, fin_n, finm_n])
      | ((with_reducible refine awp_ret ?_); simp only [thn_r, blk_r, fin_r, finm_r])
      | (with_reducible refine awp_block ?_)
      | ((with_reducible refine awp_exit ?_); simp only [thn_e, blk_e, blk_x, blk_n, thn_n, ne_eq, not_false_eq_true, Nat.reduceEqDiff, reduceCtorEq]; first | (refine hK _ ?_; clear hK K) | (clear hK K; refine hK _ ?_; clear hK K) | (clear hK K; clear hK K; refine hK _ ?_; clear hK K) | (clear hK K; clear hK K; clear hK K; refine hK _ ?_; clear hK K) | skip)
      | (with_reducible apply And.intro)
      | (with_reducible exact True.intro)
      | ((with_reducible show List.all _ _ = true); rfl)
      | ((with_reducible show lendOk _ _ = true); rfl)
      | omega
      | ((first | (with_reducible show ¬ _) | (with_reducible show _ → _)); intro h; first | contradiction | cases h; done | skip)
    all_goals (try (first | refine fin_keep ?_ | refine finm_keep ?_; repeat clear hK))
    refine awp_for (fun st (k : Nat) => st.at [1] [(4, .i (cvM l k)), (5, .i k)] st.hp) (fun k => (1 ≤ k ∧ k ≤ l.length) ∧ (List.range k).all (fun s => decide (s = 0) || !decide (l.getD s 0 = 0)) = true) (fun k => l.length - k) 1 ⟨by omega, by simp⟩ ?_ ?_
    · simp [-List.getD_eq_getElem?_getD, -List.length_take, Le, leFr, ASt.at, keepFr, updAll, upd_zero, upd_succ, cvM_1]
    rintro k ⟨hk, ha⟩
    simp only [ASt.at, keepFr, updAll, upd_zero, upd_succ, List.mem_cons, List.not_mem_nil, Nat.reduceEqDiff, Nat.reduceAdd, or_false, or_true, false_or, true_or, ↓reduceIte, eq_self]
    have hpn := popN_le k
    have hb := getD_bd hf.2.2 k
    have hF : RowKit.wrap64 (((popN k : Int) + l.getD k 0 - 1).tdiv (l.getD k 0)) = cvF l k := rfl
    repeat' first
      | ((with_reducible show aol _ _ _ _ _); first
          | (refine aol_guard_f (by rfl) ?_ ?_; (focus (simp only [go_sem]; done)))
          | (refine aol_guard_un (by rfl) ?_ ?_; (focus (simp only [go_sem]; done)))
          | (refine aol_guard_t (by rfl) ?_ ?_; (focus (simp only [go_sem]; done)); simp (config := { maxSteps := 2000000 }) (disch := omega) only [go_sem, ↓reduceIte, Nat.reduceEqDiff, Nat.reduceAdd, Nat.reduceLT, Nat.reduceLeDiff, Nat.reduceSub, tSize2, hF])
          | (refine aol_guard_b (by rfl) (by rfl) (fun h => ?_) (fun h => ?_) <;> (try simp only [Bool.and_eq_true, Bool.and_eq_false_iff, Bool.or_eq_true, Bool.or_eq_false_iff, List.all_cons, List.all_nil, Bool.and_true, beq_self_eq_true, beq_iff_eq, beq_eq_false_iff_ne, ne_eq, decide_true, decide_false, not_true_eq_false, not_false_eq_true, decide_eq_true_eq, decide_eq_false_iff_not, Bool.not_true, Bool.not_false, Bool.not_eq_true', Bool.not_eq_false', Int.not_le, Int.not_lt, reduceCtorEq, inR_iff, inR_not, isSet_iff, isSet_not] at h) <;> simp (config := { maxSteps := 2000000 }) (disch := omega) only [go_sem, ↓reduceIte, Nat.reduceEqDiff, Nat.reduceAdd, Nat.reduceLT, Nat.reduceLeDiff, Nat.reduceSub, tSize2, hF])
          | simp (config := { maxSteps := 2000000 }) (disch := omega) only [go_sem, ↓reduceIte, Nat.reduceEqDiff, Nat.reduceAdd, Nat.reduceLT, Nat.reduceLeDiff, Nat.reduceSub, tSize2, hF])
      | ((with_reducible refine hK _ ?_); clear hK K; try simp only [thn_n, blk_n, fin_n, finm_n])
      | (with_reducible refine awp_seq fun K hK => ?_)
      | ((with_reducible show Awp _ _ (Code.region _ _ _) _ _); first
          | (refine awp_regK (by repeat constructor) (fun K hK => ?_); simp (config := { maxSteps := 2000000 }) (disch := omega) only [go_sem, ↓reduceIte, Nat.reduceEqDiff, Nat.reduceAdd, Nat.reduceLT, Nat.reduceLeDiff, Nat.reduceSub, tSize2, hF])
          | (refine awp_drwK (by kernel_rfl) (by repeat constructor) (fun K hK => ?_); simp (config := { maxSteps := 2000000 }) (disch := omega) only [go_sem, ↓reduceIte, Nat.reduceEqDiff, Nat.reduceAdd, Nat.reduceLT, Nat.reduceLeDiff, Nat.reduceSub, tSize2, hF]))
      | ((with_reducible show Awp _ _ (Code.cond _ _ _) _ _); refine awp_cond rfl (fun h => ?_) (fun h => ?_) <;> (try simp only [Bool.and_eq_true, Bool.and_eq_false_iff, Bool.or_eq_true, Bool.or_eq_false_iff, List.all_cons, List.all_nil, Bool.and_true, beq_self_eq_true, beq_iff_eq, beq_eq_false_iff_ne, ne_eq, decide_true, decide_false, not_true_eq_false, not_false_eq_true, decide_eq_true_eq, decide_eq_false_iff_not, Bool.not_true, Bool.not_false, Bool.not_eq_true', Bool.not_eq_false', Int.not_le, Int.not_lt, reduceCtorEq, inR_iff, inR_not, isSet_iff, isSet_not] at h))
      | ((with_reducible refine awp_skip ?_); simp only [thn_n, blk_n, fin_n, finm_n])
      | ((with_reducible refine awp_ret ?_); simp only [thn_r, blk_r, fin_r, finm_r])
      | (with_reducible refine awp_block ?_)
      | ((with_reducible refine awp_exit ?_); simp only [thn_e, blk_e, blk_x, blk_n, thn_n, ne_eq, not_false_eq_true, Nat.reduceEqDiff, reduceCtorEq]; first | (refine hK _ ?_; clear hK K) | (clear hK K; refine hK _ ?_; clear hK K) | (clear hK K; clear hK K; refine hK _ ?_; clear hK K) | (clear hK K; clear hK K; clear hK K; refine hK _ ?_; clear hK K) | skip)
      | (with_reducible apply And.intro)
      | (with_reducible exact True.intro)
      | ((with_reducible show List.all _ _ = true); rfl)
      | ((with_reducible show lendOk _ _ = true); rfl)
      | omega
      | ((first | (with_reducible show ¬ _) | (with_reducible show _ → _)); intro h; first | contradiction | cases h; done | skip)
    all_goals (try (first | refine fin_keep ?_ | refine finm_keep ?_; repeat clear hK))
    · have hok : okC n l = false := by rw [okC, cvB, allR_no (k := k) (by omega) (by rw [decide_eq_true h, decide_eq_false (by omega)]; rfl), Bool.and_false]
      rw [hok]; exact fin_tmp2 rfl rfl rfl
    · have e := cvM_succ (l := l) hk.1
      refine ⟨k + 1, ⟨by omega, allR_succ ha (by rw [decide_eq_false h, decide_eq_false (by omega)]; rfl)⟩, by omega, ?_⟩
      simp [-List.getD_eq_getElem?_getD, -List.length_take, Le, leFr, ASt.at, keepFr, updAll, upd_zero, upd_succ, e]
    · obtain rfl : k = l.length := by omega
      have hok : okC n l = true := by rw [okC, hg, cvB, ha]; rfl
      rw [hok]; exact fin_tmp2 rfl rfl rfl
theorem exactCov_ok : Fits Try.prog 3 tTrueF := by
  refine ⟨callable_of Try.func3 (by kernel_rfl) rfl, ?_⟩
  intro args p out Ho h hp
  unfold tTrueF at h
  split at h <;> cases h
  rename_i n l
  refine ⟨acall_by (env_ok (env := [(15, tSzFn), (17, tToFn), (16, tCov), (18, tCov), (19, tEqF)]) (by simp only [List.forall_mem_cons, List.not_mem_nil, false_implies, implies_true, and_true]; exact ⟨szFn_ok, toFn_ok, specCov_ok, implCov_ok, eqFn_ok⟩)) Try.func3 rfl rfl rfl rfl rfl ?_, rfl, rfl⟩
  intro hlen c hc hX
  simp only [lensOk, AV.lenOk, true_and, and_true] at hlen
  simp only [Try.ntmps3, Try.results3, List.length_cons, List.length_nil, List.replicate, List.cons_append, List.nil_append, Nat.reduceAdd, Nat.reduceSub]
  repeat' first
    | ((with_reducible show aol _ _ _ _ _); first
        | (refine aol_guard_f (by rfl) ?_ ?_; (focus (simp only [go_sem]; done)))
        | (refine aol_guard_un (by rfl) ?_ ?_; (focus (simp only [go_sem]; done)))
        | (refine aol_guard_t (by rfl) ?_ ?_; (focus (simp only [go_sem]; done)); simp (config := { maxSteps := 2000000 }) (disch := omega) only [go_sem, ↓reduceIte, Nat.reduceEqDiff, Nat.reduceAdd, Nat.reduceLT, Nat.reduceLeDiff, Nat.reduceSub, tSzFn, tToFn, tCov, tEqF])
        | (refine aol_guard_b (by rfl) (by rfl) (fun h => ?_) (fun h => ?_) <;> (try simp only [Bool.and_eq_true, Bool.and_eq_false_iff, Bool.or_eq_true, Bool.or_eq_false_iff, List.all_cons, List.all_nil, Bool.and_true, beq_self_eq_true, beq_iff_eq, beq_eq_false_iff_ne, ne_eq, decide_true, decide_false, not_true_eq_false, not_false_eq_true, decide_eq_true_eq, decide_eq_false_iff_not, Bool.not_true, Bool.not_false, Bool.not_eq_true', Bool.not_eq_false', Int.not_le, Int.not_lt, reduceCtorEq, inR_iff, inR_not, isSet_iff, isSet_not] at h) <;> simp (config := { maxSteps := 2000000 }) (disch := omega) only [go_sem, ↓reduceIte, Nat.reduceEqDiff, Nat.reduceAdd, Nat.reduceLT, Nat.reduceLeDiff, Nat.reduceSub, tSzFn, tToFn, tCov, tEqF])
        | simp (config := { maxSteps := 2000000 }) (disch := omega) only [go_sem, ↓reduceIte, Nat.reduceEqDiff, Nat.reduceAdd, Nat.reduceLT, Nat.reduceLeDiff, Nat.reduceSub, tSzFn, tToFn, tCov, tEqF])
    | ((with_reducible refine hK _ ?_); clear hK K; try simp only [thn_n, blk_n, fin_n, finm_n])
    | (with_reducible refine awp_seq fun K hK => ?_)
    | ((with_reducible show Awp _ _ (Code.region _ _ _) _ _); first
        | (refine awp_regK (by repeat constructor) (fun K hK => ?_); simp (config := { maxSteps := 2000000 }) (disch := omega) only [go_sem, ↓reduceIte, Nat.reduceEqDiff, Nat.reduceAdd, Nat.reduceLT, Nat.reduceLeDiff, Nat.reduceSub, tSzFn, tToFn, tCov, tEqF])
        | (refine awp_drwK (by kernel_rfl) (by repeat constructor) (fun K hK => ?_); simp (config := { maxSteps := 2000000 }) (disch := omega) only [go_sem, ↓reduceIte, Nat.reduceEqDiff, Nat.reduceAdd, Nat.reduceLT, Nat.reduceLeDiff, Nat.reduceSub, tSzFn, tToFn, tCov, tEqF]))
    | ((with_reducible show Awp _ _ (Code.cond _ _ _) _ _); refine awp_cond rfl (fun h => ?_) (fun h => ?_) <;> (try simp only [Bool.and_eq_true, Bool.and_eq_false_iff, Bool.or_eq_true, Bool.or_eq_false_iff, List.all_cons, List.all_nil, Bool.and_true, beq_self_eq_true, beq_iff_eq, beq_eq_false_iff_ne, ne_eq, decide_true, decide_false, not_true_eq_false, not_false_eq_true, decide_eq_true_eq, decide_eq_false_iff_not, Bool.not_true, Bool.not_false, Bool.not_eq_true', Bool.not_eq_false', Int.not_le, Int.not_lt, reduceCtorEq, inR_iff, inR_not, isSet_iff, isSet_not] at h))
    | ((with_reducible refine awp_skip ?_); simp only [thn_n, blk_n, fin_n, finm_n])
    | ((with_reducible refine awp_ret ?_); simp only [thn_r, blk_r, fin_r, finm_r])
    | (with_reducible refine awp_block ?_)
    | ((with_reducible refine awp_exit ?_); simp only [thn_e, blk_e, blk_x, blk_n, thn_n, ne_eq, not_false_eq_true, Nat.reduceEqDiff, reduceCtorEq]; first | (refine hK _ ?_; clear hK K) | (clear hK K; refine hK _ ?_; clear hK K) | (clear hK K; clear hK K; refine hK _ ?_; clear hK K) | (clear hK K; clear hK K; clear hK K; refine hK _ ?_; clear hK K) | skip)
    | (with_reducible apply And.intro)
    | (with_reducible exact True.intro)
    | ((with_reducible show List.all _ _ = true); rfl)
    | ((with_reducible show lendOk _ _ = true); rfl)
    | omega
    | ((first | (with_reducible show ¬ _) | (with_reducible show _ → _)); intro h; first | contradiction | cases h; done | skip)
  all_goals (try (first | refine fin_keep ?_ | refine finm_keep ?_; repeat clear hK))
  all_goals (refine fin_tmp rfl ?_; rfl)

end Go.Proofs.Ytjbnldgnoloobaa
