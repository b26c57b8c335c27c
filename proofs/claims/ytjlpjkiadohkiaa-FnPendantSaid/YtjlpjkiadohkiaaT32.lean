import Derived.Test.YtjlpjkiadohkiaaHs
import Derived.Test.YtjlpjkiadohkiaaT30
set_option linter.unusedSimpArgs false
set_option linter.unusedVariables false
set_option maxHeartbeats 2000000
namespace Go.Proofs.Ytjlpjkiadohkiaa
open Go Go.Ab
attribute [local irreducible] aol
attribute [local irreducible] popN


def opF (n : Int) (l : List Int) (s : Int) : Int := l.getD (cbF n - s.toNat) 0
def opL (n : Int) (l : List Int) : List Int := mkL (opF n l) (2 ^ n.toNat)
theorem op_fn {n : Int} {l : List Int} (h : fnV n l = true) : fnV n (opL n l) = true := mk_fn (fnV_iff.1 h).1 fun k _ => getD_bd (fnV_iff.1 h).2.2 _
def tOpC : Tab
  | [.i s, .ref [.i n, .sl .i64 l]] => some (fnV n l = true ∧ (0 ≤ s ∧ s < 2 ^ n.toNat), .i (opF n l s), [])
  | _ => none
theorem full_andn {n : Int} {s : Nat} (hn : 0 ≤ n ∧ n ≤ 5) (hs : s < 2 ^ n.toNat) : iandn (cbF n : Int) (s : Int) = ((cbF n - s : Nat) : Int) := by
  have hp6 : 2 ^ n.toNat ≤ 32 := Nat.le_trans (Nat.pow_le_pow_right (by omega) (show n.toNat ≤ 5 by omega)) (by decide)
  have hcl := cbF_lt n
  have hnf := nfull (n := n.toNat) (s := s) (by omega) hs
  rw [iandn_nat (by omega) (by omega)]
  have e : cbF n = 2 ^ n.toNat - 1 := rfl
  rw [e, hnf]
theorem opC_ok : Fits Try.prog 210 tOpC := by
  refine ⟨callable_of Try.func210 (by kernel_rfl) rfl, ?_⟩
  intro args p out Ho h hp
  unfold tOpC at h
  split at h <;> cases h
  rename_i s n l
  refine ⟨acall_by (env_ok (env := [(133, tAllOf)]) (by simp only [List.forall_mem_cons, List.not_mem_nil, false_implies, implies_true, and_true]; exact allOf_ok)) Try.func210 rfl rfl rfl rfl rfl ?_, rfl, rfl⟩
  intro hlen c hc hX
  simp only [lensOk, AV.lenOk, true_and, and_true] at hlen
  simp only [Try.ntmps210, Try.results210, List.length_cons, List.length_nil, List.replicate, List.cons_append, List.nil_append, Nat.reduceAdd, Nat.reduceSub]
  obtain ⟨hf, hs⟩ := hp
  have hlen1 := fnV_len hf
  have hf' := fnV_iff.1 hf
  obtain ⟨s, rfl⟩ := Int.eq_ofNat_of_zero_le hs.1
  have hF := cbF_eq n
  have hcl := cbF_lt n
  have hpw := pow_nat n.toNat
  have hx := full_andn (s := s) hf'.1 (by omega)
  repeat' first | ((with_reducible show aol _ _ _ _ _); first | ((first | refine aol_guard_f (by rfl) ?_ ?_ | refine aol_guard_un (by rfl) ?_ ?_); (focus (simp only [go_sem]; done))) | ((first | (refine aol_guard_t (by rfl) ?_ ?_; (focus (simp only [go_sem]; done))) | (refine aol_guard_b (by rfl) (by rfl) (fun h => ?_) (fun h => ?_) <;> (try simp only [hsA, hsB, hsC, hsD, List.all_cons, List.all_nil, ne_eq, reduceCtorEq, inR_iff, inR_not, isSet_iff, isSet_not] at h))) <;> simp (config := { maxSteps := 2000000 }) (disch := omega) only [go_sem, ↓reduceIte, Nat.reduceEqDiff, Nat.reduceAdd, Nat.reduceLT, Nat.reduceLeDiff, Nat.reduceSub, tAllOf, hF, hx]) | simp (config := { maxSteps := 2000000 }) (disch := omega) only [go_sem, ↓reduceIte, Nat.reduceEqDiff, Nat.reduceAdd, Nat.reduceLT, Nat.reduceLeDiff, Nat.reduceSub, tAllOf, hF, hx]) | ((with_reducible refine hK _ ?_); clear hK K; try simp only [thn_n, blk_n, fin_n, finm_n]) | (with_reducible refine awp_seq fun K hK => ?_) | ((with_reducible show Awp _ _ (Code.region _ _ _) _ _); (first | refine awp_regK (by repeat constructor) (fun K hK => ?_) | (refine awp_drwK (by kernel_rfl) (by repeat constructor) (fun K hK => ?_))); simp (config := { maxSteps := 2000000 }) (disch := omega) only [go_sem, ↓reduceIte, Nat.reduceEqDiff, Nat.reduceAdd, Nat.reduceLT, Nat.reduceLeDiff, Nat.reduceSub, tAllOf, hF, hx]) | ((with_reducible show Awp _ _ (Code.cond _ _ _) _ _); refine awp_cond rfl (fun h => ?_) (fun h => ?_) <;> (try simp only [hsA, hsB, hsC, hsD, List.all_cons, List.all_nil, ne_eq, reduceCtorEq, inR_iff, inR_not, isSet_iff, isSet_not] at h)) | ((with_reducible refine awp_skip ?_); simp only [thn_n, blk_n, fin_n, finm_n]) | ((with_reducible refine awp_ret ?_); simp only [thn_r, blk_r, fin_r, finm_r]) | (with_reducible refine awp_block ?_) | ((with_reducible refine awp_exit ?_); simp only [thn_e, blk_e, blk_x, blk_n, thn_n, ne_eq, not_false_eq_true, Nat.reduceEqDiff, reduceCtorEq]; first | (refine hK _ ?_; clear hK K) | (clear hK K; refine hK _ ?_; clear hK K) | (clear hK K; clear hK K; refine hK _ ?_; clear hK K) | (clear hK K; clear hK K; clear hK K; refine hK _ ?_; clear hK K) | skip) | (with_reducible apply And.intro) | (with_reducible exact True.intro) | ((with_reducible show List.all _ _ = true); rfl) | ((with_reducible show lendOk _ _ = true); rfl) | omega | ((first | (with_reducible show ¬ _) | (with_reducible show _ → _)); intro h; first | contradiction | cases h; done | skip)
  all_goals (try (first | refine fin_keep ?_ | refine finm_keep ?_; repeat clear hK))
  refine fin_tmp rfl ?_; simp only [nth_zero, nth_succ, opF, Int.toNat_natCast]
def tOpCF : Tab
  | [.i n, .fn 210 [.ref [.i m, .sl .i64 l]]] => some ((0 ≤ n ∧ n ≤ 5) ∧ (n = m ∧ fnV n l = true), .tu [.ag [.i (or0 (fnV n (mkL (opF n l) (2 ^ n.toNat))) n), .own 0], .b (fnV n (mkL (opF n l) (2 ^ n.toNat)))], [.row .i64 3 (orE (fnV n (mkL (opF n l) (2 ^ n.toNat))) (mkL (opF n l) (2 ^ n.toNat)))])
  | _ => none
theorem OpCF_ok : Fits Try.prog 116 tOpCF := by
  refine ⟨callable_of Try.func116 (by kernel_rfl) rfl, ?_⟩
  intro args p out Ho h hp
  unfold tOpCF at h
  split at h <;> cases h
  rename_i n m l
  refine ⟨acall_by (env_ok (env := [(210, tOpC), (144, tIsFn)]) (by simp only [List.forall_mem_cons, List.not_mem_nil, false_implies, implies_true, and_true]; exact ⟨opC_ok, implIsFn_ok⟩)) Try.func116 rfl rfl rfl rfl rfl ?_, rfl, rfl⟩
  intro hlen c hc hX
  simp only [lensOk, AV.lenOk, true_and, and_true] at hlen
  simp only [Try.ntmps116, Try.results116, List.length_cons, List.length_nil, List.replicate, List.cons_append, List.nil_append, Nat.reduceAdd, Nat.reduceSub]
  obtain ⟨hn, hpre⟩ := hp
  obtain ⟨rfl, hpre⟩ := hpre
  have hu := u64_id (n := n) (by omega) (by omega)
  have hsh := ishl_one (n := n) hn.1 (by omega)
  have hpw := pow_nat n.toNat
  have hp6 : 2 ^ n.toNat ≤ 64 := Nat.le_trans (Nat.pow_le_pow_right (by omega) (show n.toNat ≤ 6 by omega)) (by decide)
  repeat' first | ((with_reducible show aol _ _ _ _ _); first | ((first | refine aol_guard_f (by rfl) ?_ ?_ | refine aol_guard_un (by rfl) ?_ ?_); (focus (simp only [go_sem]; done))) | ((first | (refine aol_guard_t (by rfl) ?_ ?_; (focus (simp only [go_sem]; done))) | (refine aol_guard_b (by rfl) (by rfl) (fun h => ?_) (fun h => ?_) <;> (try simp only [hsA, hsB, hsC, hsD, List.all_cons, List.all_nil, ne_eq, reduceCtorEq, inR_iff, inR_not, isSet_iff, isSet_not] at h))) <;> simp (config := { maxSteps := 2000000 }) (disch := omega) only [go_sem, ↓reduceIte, Nat.reduceEqDiff, Nat.reduceAdd, Nat.reduceLT, Nat.reduceLeDiff, Nat.reduceSub, tOpC, hu, hsh]) | simp (config := { maxSteps := 2000000 }) (disch := omega) only [go_sem, ↓reduceIte, Nat.reduceEqDiff, Nat.reduceAdd, Nat.reduceLT, Nat.reduceLeDiff, Nat.reduceSub, tOpC, hu, hsh]) | ((with_reducible refine hK _ ?_); clear hK K; try simp only [thn_n, blk_n, fin_n, finm_n]) | (with_reducible refine awp_seq fun K hK => ?_) | ((with_reducible show Awp _ _ (Code.region _ _ _) _ _); (first | refine awp_regK (by repeat constructor) (fun K hK => ?_) | (refine awp_drwK (by kernel_rfl) (by repeat constructor) (fun K hK => ?_))); simp (config := { maxSteps := 2000000 }) (disch := omega) only [go_sem, ↓reduceIte, Nat.reduceEqDiff, Nat.reduceAdd, Nat.reduceLT, Nat.reduceLeDiff, Nat.reduceSub, tOpC, hu, hsh]) | ((with_reducible show Awp _ _ (Code.cond _ _ _) _ _); refine awp_cond rfl (fun h => ?_) (fun h => ?_) <;> (try simp only [hsA, hsB, hsC, hsD, List.all_cons, List.all_nil, ne_eq, reduceCtorEq, inR_iff, inR_not, isSet_iff, isSet_not] at h)) | ((with_reducible refine awp_skip ?_); simp only [thn_n, blk_n, fin_n, finm_n]) | ((with_reducible refine awp_ret ?_); simp only [thn_r, blk_r, fin_r, finm_r]) | (with_reducible refine awp_block ?_) | ((with_reducible refine awp_exit ?_); simp only [thn_e, blk_e, blk_x, blk_n, thn_n, ne_eq, not_false_eq_true, Nat.reduceEqDiff, reduceCtorEq]; first | (refine hK _ ?_; clear hK K) | (clear hK K; refine hK _ ?_; clear hK K) | (clear hK K; clear hK K; refine hK _ ?_; clear hK K) | (clear hK K; clear hK K; clear hK K; refine hK _ ?_; clear hK K) | skip) | (with_reducible apply And.intro) | (with_reducible exact True.intro) | ((with_reducible show List.all _ _ = true); rfl) | ((with_reducible show lendOk _ _ = true); rfl) | omega | ((first | (with_reducible show ¬ _) | (with_reducible show _ → _)); intro h; first | contradiction | cases h; done | skip)
  all_goals (try (first | refine fin_keep ?_ | refine finm_keep ?_; repeat clear hK))
  refine awp_wk (wk_cell .i64 3 (b := 1) (j := 1) rfl rfl (by simp)) ?_
  refine awp_forR 0 hX (fun st (k : Nat) => st.at [1, 4, 6, 12] [(13, .i k)] [.box 26 [.i 0, .nl], .box 26 [.i n, .own 2], .row .i64 3 (mkL (opF n l) k)]) (fun k => k ≤ 2 ^ n.toNat) (fun k => 2 ^ n.toNat - k) 0 (Nat.zero_le _) ?_ ?_
  · exact ⟨[0, 1, 2], rfl, rfl, by simp [-List.getD_eq_getElem?_getD, -List.length_take, List.getD_cons_zero, List.getD_cons_succ, leFr, ASt.at, keepFr, updAll, upd_zero, upd_succ, AV.rnb, AV.rnb0, mkL], by simp [-List.getD_eq_getElem?_getD, List.getD_cons_zero, List.getD_cons_succ, ASt.at, AO.rnb, AV.rnb0, upd_k0, upd_k1, upd_k2, upd_k3, mkL], rfl, rfl⟩
  rintro k hk
  simp only [ASt.at, keepFr, updAll, upd_zero, upd_succ, List.mem_cons, List.not_mem_nil, Nat.reduceEqDiff, Nat.reduceAdd, or_false, or_true, false_or, true_or, ↓reduceIte, eq_self]
  have hrl := mkL_len (opF n l) k
  have hcl : (k : Int) < 2 ^ n.toNat → (fnV n l = true ∧ (0 ≤ (k : Int) ∧ (k : Int) < 2 ^ n.toNat)) = True := fun hkn => eq_true (⟨hpre, by omega, hkn⟩)
  repeat' first | ((with_reducible show aol _ _ _ _ _); first | ((first | refine aol_guard_f (by rfl) ?_ ?_ | refine aol_guard_un (by rfl) ?_ ?_); (focus (simp only [go_sem]; done))) | ((first | (refine aol_guard_t (by rfl) ?_ ?_; (focus (simp only [go_sem]; done))) | (refine aol_guard_b (by rfl) (by rfl) (fun h => ?_) (fun h => ?_) <;> (try simp only [hsA, hsB, hsC, hsD, List.all_cons, List.all_nil, ne_eq, reduceCtorEq, inR_iff, inR_not, isSet_iff, isSet_not] at h))) <;> simp (config := { maxSteps := 2000000 }) (disch := omega) only [go_sem, ↓reduceIte, Nat.reduceEqDiff, Nat.reduceAdd, Nat.reduceLT, Nat.reduceLeDiff, Nat.reduceSub, tOpC, hpre, hcl, tIsFn]) | simp (config := { maxSteps := 2000000 }) (disch := omega) only [go_sem, ↓reduceIte, Nat.reduceEqDiff, Nat.reduceAdd, Nat.reduceLT, Nat.reduceLeDiff, Nat.reduceSub, tOpC, hpre, hcl, tIsFn]) | ((with_reducible refine hK _ ?_); clear hK K; try simp only [thn_n, blk_n, fin_n, finm_n]) | (with_reducible refine awp_seq fun K hK => ?_) | ((with_reducible show Awp _ _ (Code.region _ _ _) _ _); (first | refine awp_regK (by repeat constructor) (fun K hK => ?_) | (refine awp_drwK (by kernel_rfl) (by repeat constructor) (fun K hK => ?_))); simp (config := { maxSteps := 2000000 }) (disch := omega) only [go_sem, ↓reduceIte, Nat.reduceEqDiff, Nat.reduceAdd, Nat.reduceLT, Nat.reduceLeDiff, Nat.reduceSub, tOpC, hpre, hcl, tIsFn]) | ((with_reducible show Awp _ _ (Code.cond _ _ _) _ _); refine awp_cond rfl (fun h => ?_) (fun h => ?_) <;> (try simp only [hsA, hsB, hsC, hsD, List.all_cons, List.all_nil, ne_eq, reduceCtorEq, inR_iff, inR_not, isSet_iff, isSet_not] at h)) | ((with_reducible refine awp_skip ?_); simp only [thn_n, blk_n, fin_n, finm_n]) | ((with_reducible refine awp_ret ?_); simp only [thn_r, blk_r, fin_r, finm_r]) | (with_reducible refine awp_block ?_) | ((with_reducible refine awp_exit ?_); simp only [thn_e, blk_e, blk_x, blk_n, thn_n, ne_eq, not_false_eq_true, Nat.reduceEqDiff, reduceCtorEq]; first | (refine hK _ ?_; clear hK K) | (clear hK K; refine hK _ ?_; clear hK K) | (clear hK K; clear hK K; refine hK _ ?_; clear hK K) | (clear hK K; clear hK K; clear hK K; refine hK _ ?_; clear hK K) | skip) | (with_reducible apply And.intro) | (with_reducible exact True.intro) | ((with_reducible show List.all _ _ = true); rfl) | ((with_reducible show lendOk _ _ = true); rfl) | omega | ((first | (with_reducible show ¬ _) | (with_reducible show _ → _)); intro h; first | contradiction | cases h; done | skip)
  all_goals (try (first | refine fin_keep ?_ | refine finm_keep ?_; repeat clear hK))
  · refine ⟨k + 1, by omega, by omega, ?_⟩
    rw [mkL_succ]
    exact ⟨[0, 1, 4], rfl, rfl, by simp [-List.getD_eq_getElem?_getD, -List.length_take, List.getD_cons_zero, List.getD_cons_succ, leFr, ASt.at, keepFr, updAll, upd_zero, upd_succ, AV.rnb, AV.rnb0], by simp [-List.getD_eq_getElem?_getD, List.getD_cons_zero, List.getD_cons_succ, ASt.at, AO.rnb, AV.rnb0, upd_k0, upd_k1, upd_k2, upd_k3], rfl, rfl⟩
  · obtain rfl : k = 2 ^ n.toNat := by omega
    rw [h]; exact fin_pairb_nl (d := tPair) rfl rfl rfl rfl rfl rfl
  · obtain rfl : k = 2 ^ n.toNat := by omega
    rw [h]; exact fin_pairb (d := tPair) rfl rfl rfl rfl rfl rfl rfl

def tOp : Tab
  | [.ag [.i n, .sl .i64 l]] => some (True, .tu [.ag [.i (or0 (fnV n l) n), .own 0], .b (fnV n l)], [.row .i64 3 (orE (fnV n l) (opL n l))])
  | _ => none
theorem implOp_ok : Fits Try.prog 168 tOp := by
  refine ⟨callable_of Try.func168 (by kernel_rfl) rfl, ?_⟩
  intro args p out Ho h hp
  unfold tOp at h
  split at h <;> cases h
  rename_i n l
  refine ⟨acall_by (env_ok (env := [(144, tIsFn), (116, tOpCF)]) (by simp only [List.forall_mem_cons, List.not_mem_nil, false_implies, implies_true, and_true]; exact ⟨implIsFn_ok, OpCF_ok⟩)) Try.func168 rfl rfl rfl rfl rfl ?_, rfl, rfl⟩
  intro hlen c hc hX
  simp only [lensOk, AV.lenOk, true_and, and_true] at hlen
  simp only [Try.ntmps168, Try.results168, List.length_cons, List.length_nil, List.replicate, List.cons_append, List.nil_append, Nat.reduceAdd, Nat.reduceSub]
  cases hg : fnV n l with
  | false =>
    repeat' first | ((with_reducible show aol _ _ _ _ _); first | ((first | refine aol_guard_f (by rfl) ?_ ?_ | refine aol_guard_un (by rfl) ?_ ?_); (focus (simp only [go_sem]; done))) | ((first | (refine aol_guard_t (by rfl) ?_ ?_; (focus (simp only [go_sem]; done))) | (refine aol_guard_b (by rfl) (by rfl) (fun h => ?_) (fun h => ?_) <;> (try simp only [hsA, hsB, hsC, hsD, List.all_cons, List.all_nil, ne_eq, reduceCtorEq, inR_iff, inR_not, isSet_iff, isSet_not] at h))) <;> simp (config := { maxSteps := 2000000 }) (disch := omega) only [go_sem, ↓reduceIte, Nat.reduceEqDiff, Nat.reduceAdd, Nat.reduceLT, Nat.reduceLeDiff, Nat.reduceSub, tIsFn, hg]) | simp (config := { maxSteps := 2000000 }) (disch := omega) only [go_sem, ↓reduceIte, Nat.reduceEqDiff, Nat.reduceAdd, Nat.reduceLT, Nat.reduceLeDiff, Nat.reduceSub, tIsFn, hg]) | ((with_reducible refine hK _ ?_); clear hK K; try simp only [thn_n, blk_n, fin_n, finm_n]) | (with_reducible refine awp_seq fun K hK => ?_) | ((with_reducible show Awp _ _ (Code.region _ _ _) _ _); (first | refine awp_regK (by repeat constructor) (fun K hK => ?_) | (refine awp_drwK (by kernel_rfl) (by repeat constructor) (fun K hK => ?_))); simp (config := { maxSteps := 2000000 }) (disch := omega) only [go_sem, ↓reduceIte, Nat.reduceEqDiff, Nat.reduceAdd, Nat.reduceLT, Nat.reduceLeDiff, Nat.reduceSub, tIsFn, hg]) | ((with_reducible show Awp _ _ (Code.cond _ _ _) _ _); refine awp_cond rfl (fun h => ?_) (fun h => ?_) <;> (try simp only [hsA, hsB, hsC, hsD, List.all_cons, List.all_nil, ne_eq, reduceCtorEq, inR_iff, inR_not, isSet_iff, isSet_not] at h)) | ((with_reducible refine awp_skip ?_); simp only [thn_n, blk_n, fin_n, finm_n]) | ((with_reducible refine awp_ret ?_); simp only [thn_r, blk_r, fin_r, finm_r]) | (with_reducible refine awp_block ?_) | ((with_reducible refine awp_exit ?_); simp only [thn_e, blk_e, blk_x, blk_n, thn_n, ne_eq, not_false_eq_true, Nat.reduceEqDiff, reduceCtorEq]; first | (refine hK _ ?_; clear hK K) | (clear hK K; refine hK _ ?_; clear hK K) | (clear hK K; clear hK K; refine hK _ ?_; clear hK K) | (clear hK K; clear hK K; clear hK K; refine hK _ ?_; clear hK K) | skip) | (with_reducible apply And.intro) | (with_reducible exact True.intro) | ((with_reducible show List.all _ _ = true); rfl) | ((with_reducible show lendOk _ _ = true); rfl) | omega | ((first | (with_reducible show ¬ _) | (with_reducible show _ → _)); intro h; first | contradiction | cases h; done | skip)
    all_goals (try (first | refine fin_keep ?_ | refine finm_keep ?_; repeat clear hK))
    exact fin_pairb_nl (d := tPair) rfl rfl rfl rfl rfl rfl
  | true =>
    have hn := (fnV_iff.1 hg).1
    have hfn : fnV n (mkL (opF n l) (2 ^ n.toNat)) = true := op_fn hg
    repeat' first | ((with_reducible show aol _ _ _ _ _); first | ((first | refine aol_guard_f (by rfl) ?_ ?_ | refine aol_guard_un (by rfl) ?_ ?_); (focus (simp only [go_sem]; done))) | ((first | (refine aol_guard_t (by rfl) ?_ ?_; (focus (simp only [go_sem]; done))) | (refine aol_guard_b (by rfl) (by rfl) (fun h => ?_) (fun h => ?_) <;> (try simp only [hsA, hsB, hsC, hsD, List.all_cons, List.all_nil, ne_eq, reduceCtorEq, inR_iff, inR_not, isSet_iff, isSet_not] at h))) <;> simp (config := { maxSteps := 2000000 }) (disch := omega) only [go_sem, ↓reduceIte, Nat.reduceEqDiff, Nat.reduceAdd, Nat.reduceLT, Nat.reduceLeDiff, Nat.reduceSub, tIsFn, hg, tOpCF, hfn, or0_t, orE_t]) | simp (config := { maxSteps := 2000000 }) (disch := omega) only [go_sem, ↓reduceIte, Nat.reduceEqDiff, Nat.reduceAdd, Nat.reduceLT, Nat.reduceLeDiff, Nat.reduceSub, tIsFn, hg, tOpCF, hfn, or0_t, orE_t]) | ((with_reducible refine hK _ ?_); clear hK K; try simp only [thn_n, blk_n, fin_n, finm_n]) | (with_reducible refine awp_seq fun K hK => ?_) | ((with_reducible show Awp _ _ (Code.region _ _ _) _ _); (first | refine awp_regK (by repeat constructor) (fun K hK => ?_) | (refine awp_drwK (by kernel_rfl) (by repeat constructor) (fun K hK => ?_))); simp (config := { maxSteps := 2000000 }) (disch := omega) only [go_sem, ↓reduceIte, Nat.reduceEqDiff, Nat.reduceAdd, Nat.reduceLT, Nat.reduceLeDiff, Nat.reduceSub, tIsFn, hg, tOpCF, hfn, or0_t, orE_t]) | ((with_reducible show Awp _ _ (Code.cond _ _ _) _ _); refine awp_cond rfl (fun h => ?_) (fun h => ?_) <;> (try simp only [hsA, hsB, hsC, hsD, List.all_cons, List.all_nil, ne_eq, reduceCtorEq, inR_iff, inR_not, isSet_iff, isSet_not] at h)) | ((with_reducible refine awp_skip ?_); simp only [thn_n, blk_n, fin_n, finm_n]) | ((with_reducible refine awp_ret ?_); simp only [thn_r, blk_r, fin_r, finm_r]) | (with_reducible refine awp_block ?_) | ((with_reducible refine awp_exit ?_); simp only [thn_e, blk_e, blk_x, blk_n, thn_n, ne_eq, not_false_eq_true, Nat.reduceEqDiff, reduceCtorEq]; first | (refine hK _ ?_; clear hK K) | (clear hK K; refine hK _ ?_; clear hK K) | (clear hK K; clear hK K; refine hK _ ?_; clear hK K) | (clear hK K; clear hK K; clear hK K; refine hK _ ?_; clear hK K) | skip) | (with_reducible apply And.intro) | (with_reducible exact True.intro) | ((with_reducible show List.all _ _ = true); rfl) | ((with_reducible show lendOk _ _ = true); rfl) | omega | ((first | (with_reducible show ¬ _) | (with_reducible show _ → _)); intro h; first | contradiction | cases h; done | skip)
    all_goals (try (first | refine fin_keep ?_ | refine finm_keep ?_; repeat clear hK))
    exact fin_pairb (d := tPair) rfl rfl rfl rfl rfl rfl rfl
theorem specOp_ok : Fits Try.prog 170 tOp := by
  refine ⟨callable_of Try.func170 (by kernel_rfl) rfl, ?_⟩
  intro args p out Ho h hp
  unfold tOp at h
  split at h <;> cases h
  rename_i n l
  refine ⟨acall_by (env_ok (env := [(163, tIsFn)]) (by simp only [List.forall_mem_cons, List.not_mem_nil, false_implies, implies_true, and_true]; exact specIsFn_ok)) Try.func170 rfl rfl rfl rfl rfl ?_, rfl, rfl⟩
  intro hlen c hc hX
  simp only [lensOk, AV.lenOk, true_and, and_true] at hlen
  simp only [Try.ntmps170, Try.results170, List.length_cons, List.length_nil, List.replicate, List.cons_append, List.nil_append, Nat.reduceAdd, Nat.reduceSub]
  cases hg : fnV n l with
  | false =>
    repeat' first | ((with_reducible show aol _ _ _ _ _); first | ((first | refine aol_guard_f (by rfl) ?_ ?_ | refine aol_guard_un (by rfl) ?_ ?_); (focus (simp only [go_sem]; done))) | ((first | (refine aol_guard_t (by rfl) ?_ ?_; (focus (simp only [go_sem]; done))) | (refine aol_guard_b (by rfl) (by rfl) (fun h => ?_) (fun h => ?_) <;> (try simp only [hsA, hsB, hsC, hsD, List.all_cons, List.all_nil, ne_eq, reduceCtorEq, inR_iff, inR_not, isSet_iff, isSet_not] at h))) <;> simp (config := { maxSteps := 2000000 }) (disch := omega) only [go_sem, ↓reduceIte, Nat.reduceEqDiff, Nat.reduceAdd, Nat.reduceLT, Nat.reduceLeDiff, Nat.reduceSub, tIsFn, hg]) | simp (config := { maxSteps := 2000000 }) (disch := omega) only [go_sem, ↓reduceIte, Nat.reduceEqDiff, Nat.reduceAdd, Nat.reduceLT, Nat.reduceLeDiff, Nat.reduceSub, tIsFn, hg]) | ((with_reducible refine hK _ ?_); clear hK K; try simp only [thn_n, blk_n, fin_n, finm_n]) | (with_reducible refine awp_seq fun K hK => ?_) | ((with_reducible show Awp _ _ (Code.region _ _ _) _ _); (first | refine awp_regK (by repeat constructor) (fun K hK => ?_) | (refine awp_drwK (by kernel_rfl) (by repeat constructor) (fun K hK => ?_))); simp (config := { maxSteps := 2000000 }) (disch := omega) only [go_sem, ↓reduceIte, Nat.reduceEqDiff, Nat.reduceAdd, Nat.reduceLT, Nat.reduceLeDiff, Nat.reduceSub, tIsFn, hg]) | ((with_reducible show Awp _ _ (Code.cond _ _ _) _ _); refine awp_cond rfl (fun h => ?_) (fun h => ?_) <;> (try simp only [hsA, hsB, hsC, hsD, List.all_cons, List.all_nil, ne_eq, reduceCtorEq, inR_iff, inR_not, isSet_iff, isSet_not] at h)) | ((with_reducible refine awp_skip ?_); simp only [thn_n, blk_n, fin_n, finm_n]) | ((with_reducible refine awp_ret ?_); simp only [thn_r, blk_r, fin_r, finm_r]) | (with_reducible refine awp_block ?_) | ((with_reducible refine awp_exit ?_); simp only [thn_e, blk_e, blk_x, blk_n, thn_n, ne_eq, not_false_eq_true, Nat.reduceEqDiff, reduceCtorEq]; first | (refine hK _ ?_; clear hK K) | (clear hK K; refine hK _ ?_; clear hK K) | (clear hK K; clear hK K; refine hK _ ?_; clear hK K) | (clear hK K; clear hK K; clear hK K; refine hK _ ?_; clear hK K) | skip) | (with_reducible apply And.intro) | (with_reducible exact True.intro) | ((with_reducible show List.all _ _ = true); rfl) | ((with_reducible show lendOk _ _ = true); rfl) | omega | ((first | (with_reducible show ¬ _) | (with_reducible show _ → _)); intro h; first | contradiction | cases h; done | skip)
    all_goals (try (first | refine fin_keep ?_ | refine finm_keep ?_; repeat clear hK))
    exact fin_pairb_nl (d := tPair) rfl rfl rfl rfl rfl rfl
  | true =>
    have hf' := fnV_iff.1 hg
    have hlen1 := fnV_len hg
    have hcl := cbF_lt n
    have hF : (l.length : Int) - 1 = (cbF n : Int) := by omega
    have hp6 : 2 ^ n.toNat ≤ 32 := Nat.le_trans (Nat.pow_le_pow_right (by omega) (show n.toNat ≤ 5 by omega)) (by decide)
    repeat' first | ((with_reducible show aol _ _ _ _ _); first | ((first | refine aol_guard_f (by rfl) ?_ ?_ | refine aol_guard_un (by rfl) ?_ ?_); (focus (simp only [go_sem]; done))) | ((first | (refine aol_guard_t (by rfl) ?_ ?_; (focus (simp only [go_sem]; done))) | (refine aol_guard_b (by rfl) (by rfl) (fun h => ?_) (fun h => ?_) <;> (try simp only [hsA, hsB, hsC, hsD, List.all_cons, List.all_nil, ne_eq, reduceCtorEq, inR_iff, inR_not, isSet_iff, isSet_not] at h))) <;> simp (config := { maxSteps := 2000000 }) (disch := omega) only [go_sem, ↓reduceIte, Nat.reduceEqDiff, Nat.reduceAdd, Nat.reduceLT, Nat.reduceLeDiff, Nat.reduceSub, tIsFn, hg]) | simp (config := { maxSteps := 2000000 }) (disch := omega) only [go_sem, ↓reduceIte, Nat.reduceEqDiff, Nat.reduceAdd, Nat.reduceLT, Nat.reduceLeDiff, Nat.reduceSub, tIsFn, hg]) | ((with_reducible refine hK _ ?_); clear hK K; try simp only [thn_n, blk_n, fin_n, finm_n]) | (with_reducible refine awp_seq fun K hK => ?_) | ((with_reducible show Awp _ _ (Code.region _ _ _) _ _); (first | refine awp_regK (by repeat constructor) (fun K hK => ?_) | (refine awp_drwK (by kernel_rfl) (by repeat constructor) (fun K hK => ?_))); simp (config := { maxSteps := 2000000 }) (disch := omega) only [go_sem, ↓reduceIte, Nat.reduceEqDiff, Nat.reduceAdd, Nat.reduceLT, Nat.reduceLeDiff, Nat.reduceSub, tIsFn, hg]) | ((with_reducible show Awp _ _ (Code.cond _ _ _) _ _); refine awp_cond rfl (fun h => ?_) (fun h => ?_) <;> (try simp only [hsA, hsB, hsC, hsD, List.all_cons, List.all_nil, ne_eq, reduceCtorEq, inR_iff, inR_not, isSet_iff, isSet_not] at h)) | ((with_reducible refine awp_skip ?_); simp only [thn_n, blk_n, fin_n, finm_n]) | ((with_reducible refine awp_ret ?_); simp only [thn_r, blk_r, fin_r, finm_r]) | (with_reducible refine awp_block ?_) | ((with_reducible refine awp_exit ?_); simp only [thn_e, blk_e, blk_x, blk_n, thn_n, ne_eq, not_false_eq_true, Nat.reduceEqDiff, reduceCtorEq]; first | (refine hK _ ?_; clear hK K) | (clear hK K; refine hK _ ?_; clear hK K) | (clear hK K; clear hK K; refine hK _ ?_; clear hK K) | (clear hK K; clear hK K; clear hK K; refine hK _ ?_; clear hK K) | skip) | (with_reducible apply And.intro) | (with_reducible exact True.intro) | ((with_reducible show List.all _ _ = true); rfl) | ((with_reducible show lendOk _ _ = true); rfl) | omega | ((first | (with_reducible show ¬ _) | (with_reducible show _ → _)); intro h; first | contradiction | cases h; done | skip)
    all_goals (try (first | refine fin_keep ?_ | refine finm_keep ?_; repeat clear hK))
    refine awp_forR 0 hX (fun st (s : Nat) => st.at [1, 2] [(4, .own 2), (5, .i s)] [.box 26 [.i n, .sl .i64 l], .box 26 [.i 0, .nl], .row .i64 3 (mkL (opF n l) s)]) (fun s => s ≤ l.length) (fun s => l.length - s) 0 (Nat.zero_le _) ?_ ?_
    · exact ⟨[0, 1, 2], rfl, rfl, by simp [-List.getD_eq_getElem?_getD, -List.length_take, List.getD_cons_zero, List.getD_cons_succ, leFr, ASt.at, keepFr, updAll, upd_zero, upd_succ, AV.rnb, AV.rnb0, mkL], by simp [-List.getD_eq_getElem?_getD, List.getD_cons_zero, List.getD_cons_succ, ASt.at, AO.rnb, AV.rnb0, upd_k0, upd_k1, upd_k2, upd_k3, mkL], rfl, rfl⟩
    rintro s hs
    simp only [ASt.at, keepFr, updAll, upd_zero, upd_succ, List.mem_cons, List.not_mem_nil, Nat.reduceEqDiff, Nat.reduceAdd, or_false, or_true, false_or, true_or, ↓reduceIte, eq_self]
    have hml := mkL_len (opF n l) s
    have hts : ((cbF n : Int) - (s : Int)).toNat = cbF n - s := by omega
    have hT : l.getD (cbF n - s) 0 = opF n l (s : Int) := by rw [opF, Int.toNat_natCast]
    repeat' first | ((with_reducible show aol _ _ _ _ _); first | ((first | refine aol_guard_f (by rfl) ?_ ?_ | refine aol_guard_un (by rfl) ?_ ?_); (focus (simp only [go_sem]; done))) | ((first | (refine aol_guard_t (by rfl) ?_ ?_; (focus (simp only [go_sem]; done))) | (refine aol_guard_b (by rfl) (by rfl) (fun h => ?_) (fun h => ?_) <;> (try simp only [hsA, hsB, hsC, hsD, List.all_cons, List.all_nil, ne_eq, reduceCtorEq, inR_iff, inR_not, isSet_iff, isSet_not] at h))) <;> simp (config := { maxSteps := 2000000 }) (disch := omega) only [go_sem, ↓reduceIte, Nat.reduceEqDiff, Nat.reduceAdd, Nat.reduceLT, Nat.reduceLeDiff, Nat.reduceSub, hF, hts, hT]) | simp (config := { maxSteps := 2000000 }) (disch := omega) only [go_sem, ↓reduceIte, Nat.reduceEqDiff, Nat.reduceAdd, Nat.reduceLT, Nat.reduceLeDiff, Nat.reduceSub, hF, hts, hT]) | ((with_reducible refine hK _ ?_); clear hK K; try simp only [thn_n, blk_n, fin_n, finm_n]) | (with_reducible refine awp_seq fun K hK => ?_) | ((with_reducible show Awp _ _ (Code.region _ _ _) _ _); (first | refine awp_regK (by repeat constructor) (fun K hK => ?_) | (refine awp_drwK (by kernel_rfl) (by repeat constructor) (fun K hK => ?_))); simp (config := { maxSteps := 2000000 }) (disch := omega) only [go_sem, ↓reduceIte, Nat.reduceEqDiff, Nat.reduceAdd, Nat.reduceLT, Nat.reduceLeDiff, Nat.reduceSub, hF, hts, hT]) | ((with_reducible show Awp _ _ (Code.cond _ _ _) _ _); refine awp_cond rfl (fun h => ?_) (fun h => ?_) <;> (try simp only [hsA, hsB, hsC, hsD, List.all_cons, List.all_nil, ne_eq, reduceCtorEq, inR_iff, inR_not, isSet_iff, isSet_not] at h)) | ((with_reducible refine awp_skip ?_); simp only [thn_n, blk_n, fin_n, finm_n]) | ((with_reducible refine awp_ret ?_); simp only [thn_r, blk_r, fin_r, finm_r]) | (with_reducible refine awp_block ?_) | ((with_reducible refine awp_exit ?_); simp only [thn_e, blk_e, blk_x, blk_n, thn_n, ne_eq, not_false_eq_true, Nat.reduceEqDiff, reduceCtorEq]; first | (refine hK _ ?_; clear hK K) | (clear hK K; refine hK _ ?_; clear hK K) | (clear hK K; clear hK K; refine hK _ ?_; clear hK K) | (clear hK K; clear hK K; clear hK K; refine hK _ ?_; clear hK K) | skip) | (with_reducible apply And.intro) | (with_reducible exact True.intro) | ((with_reducible show List.all _ _ = true); rfl) | ((with_reducible show lendOk _ _ = true); rfl) | omega | ((first | (with_reducible show ¬ _) | (with_reducible show _ → _)); intro h; first | contradiction | cases h; done | skip)
    all_goals (try (first | refine fin_keep ?_ | refine finm_keep ?_; repeat clear hK))
    · refine ⟨s + 1, by omega, by omega, ?_⟩
      rw [mkL_succ]
      exact ⟨[0, 1, 4], rfl, rfl, by simp [-List.getD_eq_getElem?_getD, -List.length_take, List.getD_cons_zero, List.getD_cons_succ, leFr, ASt.at, keepFr, updAll, upd_zero, upd_succ, AV.rnb, AV.rnb0], by simp [-List.getD_eq_getElem?_getD, List.getD_cons_zero, List.getD_cons_succ, ASt.at, AO.rnb, AV.rnb0, upd_k0, upd_k1, upd_k2, upd_k3], rfl, rfl⟩
    · obtain rfl : s = l.length := by omega
      rw [orE_t, opL, ← hlen1]; exact fin_pairb (d := tPair) rfl rfl rfl rfl rfl rfl rfl
def symV (n : Int) (l : List Int) : Bool := fnV n l && decide (l = opL n l)
def tSym : Tab
  | [.ag [.i n, .sl .i64 l]] => some (True, .b (symV n l), [])
  | _ => none
theorem implEqFn_ok : Fits Try.prog 169 tEqF := by
  refine ⟨callable_of Try.func169 (by kernel_rfl) rfl, ?_⟩
  intro args p out Ho h hp
  unfold tEqF at h
  split at h <;> cases h
  rename_i g l h m
  refine ⟨acall_by (env_ok (env := [(211, tEq)]) (by simp only [List.forall_mem_cons, List.not_mem_nil, false_implies, implies_true, and_true]; exact slicesEqual_ok)) Try.func169 rfl rfl rfl rfl rfl ?_, rfl, rfl⟩
  intro hlen c hc hX
  simp only [lensOk, AV.lenOk, true_and, and_true] at hlen
  simp only [Try.ntmps169, Try.results169, List.length_cons, List.length_nil, List.replicate, List.cons_append, List.nil_append, Nat.reduceAdd, Nat.reduceSub]
  repeat' first | ((with_reducible show aol _ _ _ _ _); first | ((first | refine aol_guard_f (by rfl) ?_ ?_ | refine aol_guard_un (by rfl) ?_ ?_); (focus (simp only [go_sem]; done))) | ((first | (refine aol_guard_t (by rfl) ?_ ?_; (focus (simp only [go_sem]; done))) | (refine aol_guard_b (by rfl) (by rfl) (fun h => ?_) (fun h => ?_) <;> (try simp only [hsA, hsB, hsC, hsD, List.all_cons, List.all_nil, ne_eq, reduceCtorEq, inR_iff, inR_not, isSet_iff, isSet_not] at h))) <;> simp (config := { maxSteps := 2000000 }) (disch := omega) only [go_sem, ↓reduceIte, Nat.reduceEqDiff, Nat.reduceAdd, Nat.reduceLT, Nat.reduceLeDiff, Nat.reduceSub, tEq]) | simp (config := { maxSteps := 2000000 }) (disch := omega) only [go_sem, ↓reduceIte, Nat.reduceEqDiff, Nat.reduceAdd, Nat.reduceLT, Nat.reduceLeDiff, Nat.reduceSub, tEq]) | ((with_reducible refine hK _ ?_); clear hK K; try simp only [thn_n, blk_n, fin_n, finm_n]) | (with_reducible refine awp_seq fun K hK => ?_) | ((with_reducible show Awp _ _ (Code.region _ _ _) _ _); (first | refine awp_regK (by repeat constructor) (fun K hK => ?_) | (refine awp_drwK (by kernel_rfl) (by repeat constructor) (fun K hK => ?_))); simp (config := { maxSteps := 2000000 }) (disch := omega) only [go_sem, ↓reduceIte, Nat.reduceEqDiff, Nat.reduceAdd, Nat.reduceLT, Nat.reduceLeDiff, Nat.reduceSub, tEq]) | ((with_reducible show Awp _ _ (Code.cond _ _ _) _ _); refine awp_cond rfl (fun h => ?_) (fun h => ?_) <;> (try simp only [hsA, hsB, hsC, hsD, List.all_cons, List.all_nil, ne_eq, reduceCtorEq, inR_iff, inR_not, isSet_iff, isSet_not] at h)) | ((with_reducible refine awp_skip ?_); simp only [thn_n, blk_n, fin_n, finm_n]) | ((with_reducible refine awp_ret ?_); simp only [thn_r, blk_r, fin_r, finm_r]) | (with_reducible refine awp_block ?_) | ((with_reducible refine awp_exit ?_); simp only [thn_e, blk_e, blk_x, blk_n, thn_n, ne_eq, not_false_eq_true, Nat.reduceEqDiff, reduceCtorEq]; first | (refine hK _ ?_; clear hK K) | (clear hK K; refine hK _ ?_; clear hK K) | (clear hK K; clear hK K; refine hK _ ?_; clear hK K) | (clear hK K; clear hK K; clear hK K; refine hK _ ?_; clear hK K) | skip) | (with_reducible apply And.intro) | (with_reducible exact True.intro) | ((with_reducible show List.all _ _ = true); rfl) | ((with_reducible show lendOk _ _ = true); rfl) | omega | ((first | (with_reducible show ¬ _) | (with_reducible show _ → _)); intro h; first | contradiction | cases h; done | skip)
  all_goals (try (first | refine fin_keep ?_ | refine finm_keep ?_; repeat clear hK))
  all_goals (refine fin_tmp rfl ?_; simp only [nth_zero, nth_succ]; simp [*])
theorem implSym_ok : Fits Try.prog 64 tSym := by
  refine ⟨callable_of Try.func64 (by kernel_rfl) rfl, ?_⟩
  intro args p out Ho h hp
  unfold tSym at h
  split at h <;> cases h
  rename_i n l
  refine ⟨acall_by (env_ok (env := [(168, tOp), (169, tEqF)]) (by simp only [List.forall_mem_cons, List.not_mem_nil, false_implies, implies_true, and_true]; exact ⟨implOp_ok, implEqFn_ok⟩)) Try.func64 rfl rfl rfl rfl rfl ?_, rfl, rfl⟩
  intro hlen c hc hX
  simp only [lensOk, AV.lenOk, true_and, and_true] at hlen
  simp only [Try.ntmps64, Try.results64, List.length_cons, List.length_nil, List.replicate, List.cons_append, List.nil_append, Nat.reduceAdd, Nat.reduceSub]
  cases hg : fnV n l with
  | false =>
    have hok : symV n l = false := by rw [symV, hg, Bool.false_and]
    rw [hok]
    repeat' first | ((with_reducible show aol _ _ _ _ _); first | ((first | refine aol_guard_f (by rfl) ?_ ?_ | refine aol_guard_un (by rfl) ?_ ?_); (focus (simp only [go_sem]; done))) | ((first | (refine aol_guard_t (by rfl) ?_ ?_; (focus (simp only [go_sem]; done))) | (refine aol_guard_b (by rfl) (by rfl) (fun h => ?_) (fun h => ?_) <;> (try simp only [hsA, hsB, hsC, hsD, List.all_cons, List.all_nil, ne_eq, reduceCtorEq, inR_iff, inR_not, isSet_iff, isSet_not] at h))) <;> simp (config := { maxSteps := 2000000 }) (disch := omega) only [go_sem, ↓reduceIte, Nat.reduceEqDiff, Nat.reduceAdd, Nat.reduceLT, Nat.reduceLeDiff, Nat.reduceSub, tOp, hg]) | simp (config := { maxSteps := 2000000 }) (disch := omega) only [go_sem, ↓reduceIte, Nat.reduceEqDiff, Nat.reduceAdd, Nat.reduceLT, Nat.reduceLeDiff, Nat.reduceSub, tOp, hg]) | ((with_reducible refine hK _ ?_); clear hK K; try simp only [thn_n, blk_n, fin_n, finm_n]) | (with_reducible refine awp_seq fun K hK => ?_) | ((with_reducible show Awp _ _ (Code.region _ _ _) _ _); (first | refine awp_regK (by repeat constructor) (fun K hK => ?_) | (refine awp_drwK (by kernel_rfl) (by repeat constructor) (fun K hK => ?_))); simp (config := { maxSteps := 2000000 }) (disch := omega) only [go_sem, ↓reduceIte, Nat.reduceEqDiff, Nat.reduceAdd, Nat.reduceLT, Nat.reduceLeDiff, Nat.reduceSub, tOp, hg]) | ((with_reducible show Awp _ _ (Code.cond _ _ _) _ _); refine awp_cond rfl (fun h => ?_) (fun h => ?_) <;> (try simp only [hsA, hsB, hsC, hsD, List.all_cons, List.all_nil, ne_eq, reduceCtorEq, inR_iff, inR_not, isSet_iff, isSet_not] at h)) | ((with_reducible refine awp_skip ?_); simp only [thn_n, blk_n, fin_n, finm_n]) | ((with_reducible refine awp_ret ?_); simp only [thn_r, blk_r, fin_r, finm_r]) | (with_reducible refine awp_block ?_) | ((with_reducible refine awp_exit ?_); simp only [thn_e, blk_e, blk_x, blk_n, thn_n, ne_eq, not_false_eq_true, Nat.reduceEqDiff, reduceCtorEq]; first | (refine hK _ ?_; clear hK K) | (clear hK K; refine hK _ ?_; clear hK K) | (clear hK K; clear hK K; refine hK _ ?_; clear hK K) | (clear hK K; clear hK K; clear hK K; refine hK _ ?_; clear hK K) | skip) | (with_reducible apply And.intro) | (with_reducible exact True.intro) | ((with_reducible show List.all _ _ = true); rfl) | ((with_reducible show lendOk _ _ = true); rfl) | omega | ((first | (with_reducible show ¬ _) | (with_reducible show _ → _)); intro h; first | contradiction | cases h; done | skip)
    all_goals (try (first | refine fin_keep ?_ | refine finm_keep ?_; repeat clear hK))
    refine fin_tmp rfl ?_; rfl
  | true =>
    have hok : symV n l = decide (l = opL n l) := by rw [symV, hg, Bool.true_and]
    rw [hok]
    repeat' first | ((with_reducible show aol _ _ _ _ _); first | ((first | refine aol_guard_f (by rfl) ?_ ?_ | refine aol_guard_un (by rfl) ?_ ?_); (focus (simp only [go_sem]; done))) | ((first | (refine aol_guard_t (by rfl) ?_ ?_; (focus (simp only [go_sem]; done))) | (refine aol_guard_b (by rfl) (by rfl) (fun h => ?_) (fun h => ?_) <;> (try simp only [hsA, hsB, hsC, hsD, List.all_cons, List.all_nil, ne_eq, reduceCtorEq, inR_iff, inR_not, isSet_iff, isSet_not] at h))) <;> simp (config := { maxSteps := 2000000 }) (disch := omega) only [go_sem, ↓reduceIte, Nat.reduceEqDiff, Nat.reduceAdd, Nat.reduceLT, Nat.reduceLeDiff, Nat.reduceSub, tOp, hg, or0_t, orE_t, tEqF]) | simp (config := { maxSteps := 2000000 }) (disch := omega) only [go_sem, ↓reduceIte, Nat.reduceEqDiff, Nat.reduceAdd, Nat.reduceLT, Nat.reduceLeDiff, Nat.reduceSub, tOp, hg, or0_t, orE_t, tEqF]) | ((with_reducible refine hK _ ?_); clear hK K; try simp only [thn_n, blk_n, fin_n, finm_n]) | (with_reducible refine awp_seq fun K hK => ?_) | ((with_reducible show Awp _ _ (Code.region _ _ _) _ _); (first | refine awp_regK (by repeat constructor) (fun K hK => ?_) | (refine awp_drwK (by kernel_rfl) (by repeat constructor) (fun K hK => ?_))); simp (config := { maxSteps := 2000000 }) (disch := omega) only [go_sem, ↓reduceIte, Nat.reduceEqDiff, Nat.reduceAdd, Nat.reduceLT, Nat.reduceLeDiff, Nat.reduceSub, tOp, hg, or0_t, orE_t, tEqF]) | ((with_reducible show Awp _ _ (Code.cond _ _ _) _ _); refine awp_cond rfl (fun h => ?_) (fun h => ?_) <;> (try simp only [hsA, hsB, hsC, hsD, List.all_cons, List.all_nil, ne_eq, reduceCtorEq, inR_iff, inR_not, isSet_iff, isSet_not] at h)) | ((with_reducible refine awp_skip ?_); simp only [thn_n, blk_n, fin_n, finm_n]) | ((with_reducible refine awp_ret ?_); simp only [thn_r, blk_r, fin_r, finm_r]) | (with_reducible refine awp_block ?_) | ((with_reducible refine awp_exit ?_); simp only [thn_e, blk_e, blk_x, blk_n, thn_n, ne_eq, not_false_eq_true, Nat.reduceEqDiff, reduceCtorEq]; first | (refine hK _ ?_; clear hK K) | (clear hK K; refine hK _ ?_; clear hK K) | (clear hK K; clear hK K; refine hK _ ?_; clear hK K) | (clear hK K; clear hK K; clear hK K; refine hK _ ?_; clear hK K) | skip) | (with_reducible apply And.intro) | (with_reducible exact True.intro) | ((with_reducible show List.all _ _ = true); rfl) | ((with_reducible show lendOk _ _ = true); rfl) | omega | ((first | (with_reducible show ¬ _) | (with_reducible show _ → _)); intro h; first | contradiction | cases h; done | skip)
    all_goals (try (first | refine fin_keep ?_ | refine finm_keep ?_; repeat clear hK))
    refine fin_tmp rfl ?_; simp only [nth_zero, nth_succ]; simp
theorem specSym_ok : Fits Try.prog 65 tSym := by
  refine ⟨callable_of Try.func65 (by kernel_rfl) rfl, ?_⟩
  intro args p out Ho h hp
  unfold tSym at h
  split at h <;> cases h
  rename_i n l
  refine ⟨acall_by (env_ok (env := [(170, tOp), (124, tEq)]) (by simp only [List.forall_mem_cons, List.not_mem_nil, false_implies, implies_true, and_true]; exact ⟨specOp_ok, specSame_ok⟩)) Try.func65 rfl rfl rfl rfl rfl ?_, rfl, rfl⟩
  intro hlen c hc hX
  simp only [lensOk, AV.lenOk, true_and, and_true] at hlen
  simp only [Try.ntmps65, Try.results65, List.length_cons, List.length_nil, List.replicate, List.cons_append, List.nil_append, Nat.reduceAdd, Nat.reduceSub]
  cases hg : fnV n l with
  | false =>
    have hok : symV n l = false := by rw [symV, hg, Bool.false_and]
    rw [hok]
    repeat' first | ((with_reducible show aol _ _ _ _ _); first | ((first | refine aol_guard_f (by rfl) ?_ ?_ | refine aol_guard_un (by rfl) ?_ ?_); (focus (simp only [go_sem]; done))) | ((first | (refine aol_guard_t (by rfl) ?_ ?_; (focus (simp only [go_sem]; done))) | (refine aol_guard_b (by rfl) (by rfl) (fun h => ?_) (fun h => ?_) <;> (try simp only [hsA, hsB, hsC, hsD, List.all_cons, List.all_nil, ne_eq, reduceCtorEq, inR_iff, inR_not, isSet_iff, isSet_not] at h))) <;> simp (config := { maxSteps := 2000000 }) (disch := omega) only [go_sem, ↓reduceIte, Nat.reduceEqDiff, Nat.reduceAdd, Nat.reduceLT, Nat.reduceLeDiff, Nat.reduceSub, tOp, hg]) | simp (config := { maxSteps := 2000000 }) (disch := omega) only [go_sem, ↓reduceIte, Nat.reduceEqDiff, Nat.reduceAdd, Nat.reduceLT, Nat.reduceLeDiff, Nat.reduceSub, tOp, hg]) | ((with_reducible refine hK _ ?_); clear hK K; try simp only [thn_n, blk_n, fin_n, finm_n]) | (with_reducible refine awp_seq fun K hK => ?_) | ((with_reducible show Awp _ _ (Code.region _ _ _) _ _); (first | refine awp_regK (by repeat constructor) (fun K hK => ?_) | (refine awp_drwK (by kernel_rfl) (by repeat constructor) (fun K hK => ?_))); simp (config := { maxSteps := 2000000 }) (disch := omega) only [go_sem, ↓reduceIte, Nat.reduceEqDiff, Nat.reduceAdd, Nat.reduceLT, Nat.reduceLeDiff, Nat.reduceSub, tOp, hg]) | ((with_reducible show Awp _ _ (Code.cond _ _ _) _ _); refine awp_cond rfl (fun h => ?_) (fun h => ?_) <;> (try simp only [hsA, hsB, hsC, hsD, List.all_cons, List.all_nil, ne_eq, reduceCtorEq, inR_iff, inR_not, isSet_iff, isSet_not] at h)) | ((with_reducible refine awp_skip ?_); simp only [thn_n, blk_n, fin_n, finm_n]) | ((with_reducible refine awp_ret ?_); simp only [thn_r, blk_r, fin_r, finm_r]) | (with_reducible refine awp_block ?_) | ((with_reducible refine awp_exit ?_); simp only [thn_e, blk_e, blk_x, blk_n, thn_n, ne_eq, not_false_eq_true, Nat.reduceEqDiff, reduceCtorEq]; first | (refine hK _ ?_; clear hK K) | (clear hK K; refine hK _ ?_; clear hK K) | (clear hK K; clear hK K; refine hK _ ?_; clear hK K) | (clear hK K; clear hK K; clear hK K; refine hK _ ?_; clear hK K) | skip) | (with_reducible apply And.intro) | (with_reducible exact True.intro) | ((with_reducible show List.all _ _ = true); rfl) | ((with_reducible show lendOk _ _ = true); rfl) | omega | ((first | (with_reducible show ¬ _) | (with_reducible show _ → _)); intro h; first | contradiction | cases h; done | skip)
    all_goals (try (first | refine fin_keep ?_ | refine finm_keep ?_; repeat clear hK))
    refine fin_tmp rfl ?_; rfl
  | true =>
    have hok : symV n l = decide (l = opL n l) := by rw [symV, hg, Bool.true_and]
    rw [hok]
    repeat' first | ((with_reducible show aol _ _ _ _ _); first | ((first | refine aol_guard_f (by rfl) ?_ ?_ | refine aol_guard_un (by rfl) ?_ ?_); (focus (simp only [go_sem]; done))) | ((first | (refine aol_guard_t (by rfl) ?_ ?_; (focus (simp only [go_sem]; done))) | (refine aol_guard_b (by rfl) (by rfl) (fun h => ?_) (fun h => ?_) <;> (try simp only [hsA, hsB, hsC, hsD, List.all_cons, List.all_nil, ne_eq, reduceCtorEq, inR_iff, inR_not, isSet_iff, isSet_not] at h))) <;> simp (config := { maxSteps := 2000000 }) (disch := omega) only [go_sem, ↓reduceIte, Nat.reduceEqDiff, Nat.reduceAdd, Nat.reduceLT, Nat.reduceLeDiff, Nat.reduceSub, tOp, hg, or0_t, orE_t, tEq]) | simp (config := { maxSteps := 2000000 }) (disch := omega) only [go_sem, ↓reduceIte, Nat.reduceEqDiff, Nat.reduceAdd, Nat.reduceLT, Nat.reduceLeDiff, Nat.reduceSub, tOp, hg, or0_t, orE_t, tEq]) | ((with_reducible refine hK _ ?_); clear hK K; try simp only [thn_n, blk_n, fin_n, finm_n]) | (with_reducible refine awp_seq fun K hK => ?_) | ((with_reducible show Awp _ _ (Code.region _ _ _) _ _); (first | refine awp_regK (by repeat constructor) (fun K hK => ?_) | (refine awp_drwK (by kernel_rfl) (by repeat constructor) (fun K hK => ?_))); simp (config := { maxSteps := 2000000 }) (disch := omega) only [go_sem, ↓reduceIte, Nat.reduceEqDiff, Nat.reduceAdd, Nat.reduceLT, Nat.reduceLeDiff, Nat.reduceSub, tOp, hg, or0_t, orE_t, tEq]) | ((with_reducible show Awp _ _ (Code.cond _ _ _) _ _); refine awp_cond rfl (fun h => ?_) (fun h => ?_) <;> (try simp only [hsA, hsB, hsC, hsD, List.all_cons, List.all_nil, ne_eq, reduceCtorEq, inR_iff, inR_not, isSet_iff, isSet_not] at h)) | ((with_reducible refine awp_skip ?_); simp only [thn_n, blk_n, fin_n, finm_n]) | ((with_reducible refine awp_ret ?_); simp only [thn_r, blk_r, fin_r, finm_r]) | (with_reducible refine awp_block ?_) | ((with_reducible refine awp_exit ?_); simp only [thn_e, blk_e, blk_x, blk_n, thn_n, ne_eq, not_false_eq_true, Nat.reduceEqDiff, reduceCtorEq]; first | (refine hK _ ?_; clear hK K) | (clear hK K; refine hK _ ?_; clear hK K) | (clear hK K; clear hK K; refine hK _ ?_; clear hK K) | (clear hK K; clear hK K; clear hK K; refine hK _ ?_; clear hK K) | skip) | (with_reducible apply And.intro) | (with_reducible exact True.intro) | ((with_reducible show List.all _ _ = true); rfl) | ((with_reducible show lendOk _ _ = true); rfl) | omega | ((first | (with_reducible show ¬ _) | (with_reducible show _ → _)); intro h; first | contradiction | cases h; done | skip)
    all_goals (try (first | refine fin_keep ?_ | refine finm_keep ?_; repeat clear hK))
    refine fin_tmp rfl ?_; rfl
def cutV (n : Int) (l : List Int) : Bool := subV n l && (symV n l && decide (2 ≤ n))
def tCutB : Tab
  | [.ag [.i n, .sl .i64 l]] => some (True, .b (cutV n l), [])
  | _ => none
theorem canCut_ok : Fits Try.prog 155 tCutB := by
  refine ⟨callable_of Try.func155 (by kernel_rfl) rfl, ?_⟩
  intro args p out Ho h hp
  unfold tCutB at h
  split at h <;> cases h
  rename_i n l
  refine ⟨acall_by (env_ok (env := [(62, tIsSub), (64, tSym)]) (by simp only [List.forall_mem_cons, List.not_mem_nil, false_implies, implies_true, and_true]; exact ⟨implIsSub_ok, implSym_ok⟩)) Try.func155 rfl rfl rfl rfl rfl ?_, rfl, rfl⟩
  intro hlen c hc hX
  simp only [lensOk, AV.lenOk, true_and, and_true] at hlen
  simp only [Try.ntmps155, Try.results155, List.length_cons, List.length_nil, List.replicate, List.cons_append, List.nil_append, Nat.reduceAdd, Nat.reduceSub]
  cases h1 : subV n l with
  | false =>
    have hok : cutV n l = false := by rw [cutV, h1, Bool.false_and]
    rw [hok]
    repeat' first | ((with_reducible show aol _ _ _ _ _); first | ((first | refine aol_guard_f (by rfl) ?_ ?_ | refine aol_guard_un (by rfl) ?_ ?_); (focus (simp only [go_sem]; done))) | ((first | (refine aol_guard_t (by rfl) ?_ ?_; (focus (simp only [go_sem]; done))) | (refine aol_guard_b (by rfl) (by rfl) (fun h => ?_) (fun h => ?_) <;> (try simp only [hsA, hsB, hsC, hsD, List.all_cons, List.all_nil, ne_eq, reduceCtorEq, inR_iff, inR_not, isSet_iff, isSet_not] at h))) <;> simp (config := { maxSteps := 2000000 }) (disch := omega) only [go_sem, ↓reduceIte, Nat.reduceEqDiff, Nat.reduceAdd, Nat.reduceLT, Nat.reduceLeDiff, Nat.reduceSub, tIsSub, h1]) | simp (config := { maxSteps := 2000000 }) (disch := omega) only [go_sem, ↓reduceIte, Nat.reduceEqDiff, Nat.reduceAdd, Nat.reduceLT, Nat.reduceLeDiff, Nat.reduceSub, tIsSub, h1]) | ((with_reducible refine hK _ ?_); clear hK K; try simp only [thn_n, blk_n, fin_n, finm_n]) | (with_reducible refine awp_seq fun K hK => ?_) | ((with_reducible show Awp _ _ (Code.region _ _ _) _ _); (first | refine awp_regK (by repeat constructor) (fun K hK => ?_) | (refine awp_drwK (by kernel_rfl) (by repeat constructor) (fun K hK => ?_))); simp (config := { maxSteps := 2000000 }) (disch := omega) only [go_sem, ↓reduceIte, Nat.reduceEqDiff, Nat.reduceAdd, Nat.reduceLT, Nat.reduceLeDiff, Nat.reduceSub, tIsSub, h1]) | ((with_reducible show Awp _ _ (Code.cond _ _ _) _ _); refine awp_cond rfl (fun h => ?_) (fun h => ?_) <;> (try simp only [hsA, hsB, hsC, hsD, List.all_cons, List.all_nil, ne_eq, reduceCtorEq, inR_iff, inR_not, isSet_iff, isSet_not] at h)) | ((with_reducible refine awp_skip ?_); simp only [thn_n, blk_n, fin_n, finm_n]) | ((with_reducible refine awp_ret ?_); simp only [thn_r, blk_r, fin_r, finm_r]) | (with_reducible refine awp_block ?_) | ((with_reducible refine awp_exit ?_); simp only [thn_e, blk_e, blk_x, blk_n, thn_n, ne_eq, not_false_eq_true, Nat.reduceEqDiff, reduceCtorEq]; first | (refine hK _ ?_; clear hK K) | (clear hK K; refine hK _ ?_; clear hK K) | (clear hK K; clear hK K; refine hK _ ?_; clear hK K) | (clear hK K; clear hK K; clear hK K; refine hK _ ?_; clear hK K) | skip) | (with_reducible apply And.intro) | (with_reducible exact True.intro) | ((with_reducible show List.all _ _ = true); rfl) | ((with_reducible show lendOk _ _ = true); rfl) | omega | ((first | (with_reducible show ¬ _) | (with_reducible show _ → _)); intro h; first | contradiction | cases h; done | skip)
    all_goals (try (first | refine fin_keep ?_ | refine finm_keep ?_; repeat clear hK))
    refine fin_tmp rfl ?_; rfl
  | true =>
    cases h2 : symV n l with
    | false =>
      have hok : cutV n l = false := by rw [cutV, h2, Bool.false_and, Bool.and_false]
      rw [hok]
      repeat' first | ((with_reducible show aol _ _ _ _ _); first | ((first | refine aol_guard_f (by rfl) ?_ ?_ | refine aol_guard_un (by rfl) ?_ ?_); (focus (simp only [go_sem]; done))) | ((first | (refine aol_guard_t (by rfl) ?_ ?_; (focus (simp only [go_sem]; done))) | (refine aol_guard_b (by rfl) (by rfl) (fun h => ?_) (fun h => ?_) <;> (try simp only [hsA, hsB, hsC, hsD, List.all_cons, List.all_nil, ne_eq, reduceCtorEq, inR_iff, inR_not, isSet_iff, isSet_not] at h))) <;> simp (config := { maxSteps := 2000000 }) (disch := omega) only [go_sem, ↓reduceIte, Nat.reduceEqDiff, Nat.reduceAdd, Nat.reduceLT, Nat.reduceLeDiff, Nat.reduceSub, tIsSub, h1, tSym, h2]) | simp (config := { maxSteps := 2000000 }) (disch := omega) only [go_sem, ↓reduceIte, Nat.reduceEqDiff, Nat.reduceAdd, Nat.reduceLT, Nat.reduceLeDiff, Nat.reduceSub, tIsSub, h1, tSym, h2]) | ((with_reducible refine hK _ ?_); clear hK K; try simp only [thn_n, blk_n, fin_n, finm_n]) | (with_reducible refine awp_seq fun K hK => ?_) | ((with_reducible show Awp _ _ (Code.region _ _ _) _ _); (first | refine awp_regK (by repeat constructor) (fun K hK => ?_) | (refine awp_drwK (by kernel_rfl) (by repeat constructor) (fun K hK => ?_))); simp (config := { maxSteps := 2000000 }) (disch := omega) only [go_sem, ↓reduceIte, Nat.reduceEqDiff, Nat.reduceAdd, Nat.reduceLT, Nat.reduceLeDiff, Nat.reduceSub, tIsSub, h1, tSym, h2]) | ((with_reducible show Awp _ _ (Code.cond _ _ _) _ _); refine awp_cond rfl (fun h => ?_) (fun h => ?_) <;> (try simp only [hsA, hsB, hsC, hsD, List.all_cons, List.all_nil, ne_eq, reduceCtorEq, inR_iff, inR_not, isSet_iff, isSet_not] at h)) | ((with_reducible refine awp_skip ?_); simp only [thn_n, blk_n, fin_n, finm_n]) | ((with_reducible refine awp_ret ?_); simp only [thn_r, blk_r, fin_r, finm_r]) | (with_reducible refine awp_block ?_) | ((with_reducible refine awp_exit ?_); simp only [thn_e, blk_e, blk_x, blk_n, thn_n, ne_eq, not_false_eq_true, Nat.reduceEqDiff, reduceCtorEq]; first | (refine hK _ ?_; clear hK K) | (clear hK K; refine hK _ ?_; clear hK K) | (clear hK K; clear hK K; refine hK _ ?_; clear hK K) | (clear hK K; clear hK K; clear hK K; refine hK _ ?_; clear hK K) | skip) | (with_reducible apply And.intro) | (with_reducible exact True.intro) | ((with_reducible show List.all _ _ = true); rfl) | ((with_reducible show lendOk _ _ = true); rfl) | omega | ((first | (with_reducible show ¬ _) | (with_reducible show _ → _)); intro h; first | contradiction | cases h; done | skip)
      all_goals (try (first | refine fin_keep ?_ | refine finm_keep ?_; repeat clear hK))
      refine fin_tmp rfl ?_; rfl
    | true =>
      have hok : cutV n l = decide (2 ≤ n) := by rw [cutV, h1, h2]; rfl
      rw [hok]
      repeat' first | ((with_reducible show aol _ _ _ _ _); first | ((first | refine aol_guard_f (by rfl) ?_ ?_ | refine aol_guard_un (by rfl) ?_ ?_); (focus (simp only [go_sem]; done))) | ((first | (refine aol_guard_t (by rfl) ?_ ?_; (focus (simp only [go_sem]; done))) | (refine aol_guard_b (by rfl) (by rfl) (fun h => ?_) (fun h => ?_) <;> (try simp only [hsA, hsB, hsC, hsD, List.all_cons, List.all_nil, ne_eq, reduceCtorEq, inR_iff, inR_not, isSet_iff, isSet_not] at h))) <;> simp (config := { maxSteps := 2000000 }) (disch := omega) only [go_sem, ↓reduceIte, Nat.reduceEqDiff, Nat.reduceAdd, Nat.reduceLT, Nat.reduceLeDiff, Nat.reduceSub, tIsSub, h1, tSym, h2]) | simp (config := { maxSteps := 2000000 }) (disch := omega) only [go_sem, ↓reduceIte, Nat.reduceEqDiff, Nat.reduceAdd, Nat.reduceLT, Nat.reduceLeDiff, Nat.reduceSub, tIsSub, h1, tSym, h2]) | ((with_reducible refine hK _ ?_); clear hK K; try simp only [thn_n, blk_n, fin_n, finm_n]) | (with_reducible refine awp_seq fun K hK => ?_) | ((with_reducible show Awp _ _ (Code.region _ _ _) _ _); (first | refine awp_regK (by repeat constructor) (fun K hK => ?_) | (refine awp_drwK (by kernel_rfl) (by repeat constructor) (fun K hK => ?_))); simp (config := { maxSteps := 2000000 }) (disch := omega) only [go_sem, ↓reduceIte, Nat.reduceEqDiff, Nat.reduceAdd, Nat.reduceLT, Nat.reduceLeDiff, Nat.reduceSub, tIsSub, h1, tSym, h2]) | ((with_reducible show Awp _ _ (Code.cond _ _ _) _ _); refine awp_cond rfl (fun h => ?_) (fun h => ?_) <;> (try simp only [hsA, hsB, hsC, hsD, List.all_cons, List.all_nil, ne_eq, reduceCtorEq, inR_iff, inR_not, isSet_iff, isSet_not] at h)) | ((with_reducible refine awp_skip ?_); simp only [thn_n, blk_n, fin_n, finm_n]) | ((with_reducible refine awp_ret ?_); simp only [thn_r, blk_r, fin_r, finm_r]) | (with_reducible refine awp_block ?_) | ((with_reducible refine awp_exit ?_); simp only [thn_e, blk_e, blk_x, blk_n, thn_n, ne_eq, not_false_eq_true, Nat.reduceEqDiff, reduceCtorEq]; first | (refine hK _ ?_; clear hK K) | (clear hK K; refine hK _ ?_; clear hK K) | (clear hK K; clear hK K; refine hK _ ?_; clear hK K) | (clear hK K; clear hK K; clear hK K; refine hK _ ?_; clear hK K) | skip) | (with_reducible apply And.intro) | (with_reducible exact True.intro) | ((with_reducible show List.all _ _ = true); rfl) | ((with_reducible show lendOk _ _ = true); rfl) | omega | ((first | (with_reducible show ¬ _) | (with_reducible show _ → _)); intro h; first | contradiction | cases h; done | skip)
      all_goals (try (first | refine fin_keep ?_ | refine finm_keep ?_; repeat clear hK))
      refine fin_tmp rfl ?_; rfl
theorem fit14_ok : Fits Try.prog 157 tCutB := by
  refine ⟨callable_of Try.func157 (by kernel_rfl) rfl, ?_⟩
  intro args p out Ho h hp
  unfold tCutB at h
  split at h <;> cases h
  rename_i n l
  refine ⟨acall_by (env_ok (env := [(61, tIsSub), (65, tSym)]) (by simp only [List.forall_mem_cons, List.not_mem_nil, false_implies, implies_true, and_true]; exact ⟨specIsSub_ok, specSym_ok⟩)) Try.func157 rfl rfl rfl rfl rfl ?_, rfl, rfl⟩
  intro hlen c hc hX
  simp only [lensOk, AV.lenOk, true_and, and_true] at hlen
  simp only [Try.ntmps157, Try.results157, List.length_cons, List.length_nil, List.replicate, List.cons_append, List.nil_append, Nat.reduceAdd, Nat.reduceSub]
  by_cases h0 : 2 ≤ n
  · cases h1 : subV n l with
    | false =>
      have hok : cutV n l = false := by rw [cutV, h1, Bool.false_and]
      rw [hok]
      repeat' first | ((with_reducible show aol _ _ _ _ _); first | ((first | refine aol_guard_f (by rfl) ?_ ?_ | refine aol_guard_un (by rfl) ?_ ?_); (focus (simp only [go_sem]; done))) | ((first | (refine aol_guard_t (by rfl) ?_ ?_; (focus (simp only [go_sem]; done))) | (refine aol_guard_b (by rfl) (by rfl) (fun h => ?_) (fun h => ?_) <;> (try simp only [hsA, hsB, hsC, hsD, List.all_cons, List.all_nil, ne_eq, reduceCtorEq, inR_iff, inR_not, isSet_iff, isSet_not] at h))) <;> simp (config := { maxSteps := 2000000 }) (disch := omega) only [go_sem, ↓reduceIte, Nat.reduceEqDiff, Nat.reduceAdd, Nat.reduceLT, Nat.reduceLeDiff, Nat.reduceSub, tIsSub, h1]) | simp (config := { maxSteps := 2000000 }) (disch := omega) only [go_sem, ↓reduceIte, Nat.reduceEqDiff, Nat.reduceAdd, Nat.reduceLT, Nat.reduceLeDiff, Nat.reduceSub, tIsSub, h1]) | ((with_reducible refine hK _ ?_); clear hK K; try simp only [thn_n, blk_n, fin_n, finm_n]) | (with_reducible refine awp_seq fun K hK => ?_) | ((with_reducible show Awp _ _ (Code.region _ _ _) _ _); (first | refine awp_regK (by repeat constructor) (fun K hK => ?_) | (refine awp_drwK (by kernel_rfl) (by repeat constructor) (fun K hK => ?_))); simp (config := { maxSteps := 2000000 }) (disch := omega) only [go_sem, ↓reduceIte, Nat.reduceEqDiff, Nat.reduceAdd, Nat.reduceLT, Nat.reduceLeDiff, Nat.reduceSub, tIsSub, h1]) | ((with_reducible show Awp _ _ (Code.cond _ _ _) _ _); refine awp_cond rfl (fun h => ?_) (fun h => ?_) <;> (try simp only [hsA, hsB, hsC, hsD, List.all_cons, List.all_nil, ne_eq, reduceCtorEq, inR_iff, inR_not, isSet_iff, isSet_not] at h)) | ((with_reducible refine awp_skip ?_); simp only [thn_n, blk_n, fin_n, finm_n]) | ((with_reducible refine awp_ret ?_); simp only [thn_r, blk_r, fin_r, finm_r]) | (with_reducible refine awp_block ?_) | ((with_reducible refine awp_exit ?_); simp only [thn_e, blk_e, blk_x, blk_n, thn_n, ne_eq, not_false_eq_true, Nat.reduceEqDiff, reduceCtorEq]; first | (refine hK _ ?_; clear hK K) | (clear hK K; refine hK _ ?_; clear hK K) | (clear hK K; clear hK K; refine hK _ ?_; clear hK K) | (clear hK K; clear hK K; clear hK K; refine hK _ ?_; clear hK K) | skip) | (with_reducible apply And.intro) | (with_reducible exact True.intro) | ((with_reducible show List.all _ _ = true); rfl) | ((with_reducible show lendOk _ _ = true); rfl) | omega | ((first | (with_reducible show ¬ _) | (with_reducible show _ → _)); intro h; first | contradiction | cases h; done | skip)
      all_goals (try (first | refine fin_keep ?_ | refine finm_keep ?_; repeat clear hK))
      all_goals first | omega | (refine fin_tmp rfl ?_; rfl)
    | true =>
      have hok : cutV n l = symV n l := by rw [cutV, h1, decide_eq_true h0, Bool.and_true, Bool.true_and]
      rw [hok]
      repeat' first | ((with_reducible show aol _ _ _ _ _); first | ((first | refine aol_guard_f (by rfl) ?_ ?_ | refine aol_guard_un (by rfl) ?_ ?_); (focus (simp only [go_sem]; done))) | ((first | (refine aol_guard_t (by rfl) ?_ ?_; (focus (simp only [go_sem]; done))) | (refine aol_guard_b (by rfl) (by rfl) (fun h => ?_) (fun h => ?_) <;> (try simp only [hsA, hsB, hsC, hsD, List.all_cons, List.all_nil, ne_eq, reduceCtorEq, inR_iff, inR_not, isSet_iff, isSet_not] at h))) <;> simp (config := { maxSteps := 2000000 }) (disch := omega) only [go_sem, ↓reduceIte, Nat.reduceEqDiff, Nat.reduceAdd, Nat.reduceLT, Nat.reduceLeDiff, Nat.reduceSub, tIsSub, h1, tSym]) | simp (config := { maxSteps := 2000000 }) (disch := omega) only [go_sem, ↓reduceIte, Nat.reduceEqDiff, Nat.reduceAdd, Nat.reduceLT, Nat.reduceLeDiff, Nat.reduceSub, tIsSub, h1, tSym]) | ((with_reducible refine hK _ ?_); clear hK K; try simp only [thn_n, blk_n, fin_n, finm_n]) | (with_reducible refine awp_seq fun K hK => ?_) | ((with_reducible show Awp _ _ (Code.region _ _ _) _ _); (first | refine awp_regK (by repeat constructor) (fun K hK => ?_) | (refine awp_drwK (by kernel_rfl) (by repeat constructor) (fun K hK => ?_))); simp (config := { maxSteps := 2000000 }) (disch := omega) only [go_sem, ↓reduceIte, Nat.reduceEqDiff, Nat.reduceAdd, Nat.reduceLT, Nat.reduceLeDiff, Nat.reduceSub, tIsSub, h1, tSym]) | ((with_reducible show Awp _ _ (Code.cond _ _ _) _ _); refine awp_cond rfl (fun h => ?_) (fun h => ?_) <;> (try simp only [hsA, hsB, hsC, hsD, List.all_cons, List.all_nil, ne_eq, reduceCtorEq, inR_iff, inR_not, isSet_iff, isSet_not] at h)) | ((with_reducible refine awp_skip ?_); simp only [thn_n, blk_n, fin_n, finm_n]) | ((with_reducible refine awp_ret ?_); simp only [thn_r, blk_r, fin_r, finm_r]) | (with_reducible refine awp_block ?_) | ((with_reducible refine awp_exit ?_); simp only [thn_e, blk_e, blk_x, blk_n, thn_n, ne_eq, not_false_eq_true, Nat.reduceEqDiff, reduceCtorEq]; first | (refine hK _ ?_; clear hK K) | (clear hK K; refine hK _ ?_; clear hK K) | (clear hK K; clear hK K; refine hK _ ?_; clear hK K) | (clear hK K; clear hK K; clear hK K; refine hK _ ?_; clear hK K) | skip) | (with_reducible apply And.intro) | (with_reducible exact True.intro) | ((with_reducible show List.all _ _ = true); rfl) | ((with_reducible show lendOk _ _ = true); rfl) | omega | ((first | (with_reducible show ¬ _) | (with_reducible show _ → _)); intro h; first | contradiction | cases h; done | skip)
      all_goals (try (first | refine fin_keep ?_ | refine finm_keep ?_; repeat clear hK))
      all_goals first | omega | (refine fin_tmp rfl ?_; rfl)
  · have hok : cutV n l = false := by rw [cutV, decide_eq_false h0, Bool.and_false, Bool.and_false]
    rw [hok]
    repeat' first | ((with_reducible show aol _ _ _ _ _); first | ((first | refine aol_guard_f (by rfl) ?_ ?_ | refine aol_guard_un (by rfl) ?_ ?_); (focus (simp only [go_sem]; done))) | ((first | (refine aol_guard_t (by rfl) ?_ ?_; (focus (simp only [go_sem]; done))) | (refine aol_guard_b (by rfl) (by rfl) (fun h => ?_) (fun h => ?_) <;> (try simp only [hsA, hsB, hsC, hsD, List.all_cons, List.all_nil, ne_eq, reduceCtorEq, inR_iff, inR_not, isSet_iff, isSet_not] at h))) <;> simp (config := { maxSteps := 2000000 }) (disch := omega) only [go_sem, ↓reduceIte, Nat.reduceEqDiff, Nat.reduceAdd, Nat.reduceLT, Nat.reduceLeDiff, Nat.reduceSub]) | simp (config := { maxSteps := 2000000 }) (disch := omega) only [go_sem, ↓reduceIte, Nat.reduceEqDiff, Nat.reduceAdd, Nat.reduceLT, Nat.reduceLeDiff, Nat.reduceSub]) | ((with_reducible refine hK _ ?_); clear hK K; try simp only [thn_n, blk_n, fin_n, finm_n]) | (with_reducible refine awp_seq fun K hK => ?_) | ((with_reducible show Awp _ _ (Code.region _ _ _) _ _); (first | refine awp_regK (by repeat constructor) (fun K hK => ?_) | (refine awp_drwK (by kernel_rfl) (by repeat constructor) (fun K hK => ?_))); simp (config := { maxSteps := 2000000 }) (disch := omega) only [go_sem, ↓reduceIte, Nat.reduceEqDiff, Nat.reduceAdd, Nat.reduceLT, Nat.reduceLeDiff, Nat.reduceSub]) | ((with_reducible show Awp _ _ (Code.cond _ _ _) _ _); refine awp_cond rfl (fun h => ?_) (fun h => ?_) <;> (try simp only [hsA, hsB, hsC, hsD, List.all_cons, List.all_nil, ne_eq, reduceCtorEq, inR_iff, inR_not, isSet_iff, isSet_not] at h)) | ((with_reducible refine awp_skip ?_); simp only [thn_n, blk_n, fin_n, finm_n]) | ((with_reducible refine awp_ret ?_); simp only [thn_r, blk_r, fin_r, finm_r]) | (with_reducible refine awp_block ?_) | ((with_reducible refine awp_exit ?_); simp only [thn_e, blk_e, blk_x, blk_n, thn_n, ne_eq, not_false_eq_true, Nat.reduceEqDiff, reduceCtorEq]; first | (refine hK _ ?_; clear hK K) | (clear hK K; refine hK _ ?_; clear hK K) | (clear hK K; clear hK K; refine hK _ ?_; clear hK K) | (clear hK K; clear hK K; clear hK K; refine hK _ ?_; clear hK K) | skip) | (with_reducible apply And.intro) | (with_reducible exact True.intro) | ((with_reducible show List.all _ _ = true); rfl) | ((with_reducible show lendOk _ _ = true); rfl) | omega | ((first | (with_reducible show ¬ _) | (with_reducible show _ → _)); intro h; first | contradiction | cases h; done | skip)
    all_goals (try (first | refine fin_keep ?_ | refine finm_keep ?_; repeat clear hK))
    all_goals first | omega | (refine fin_tmp rfl ?_; rfl)
theorem cut_iff {n : Int} {l : List Int} : cutV n l = true ↔ subV n l = true ∧ symV n l = true ∧ 2 ≤ n := by
  unfold cutV; rw [Bool.and_eq_true, Bool.and_eq_true, decide_eq_true_eq]
theorem cut_fn {n : Int} {l : List Int} (h : cutV n l = true) : fnV n l = true := by
  have := (cut_iff.1 h).2.1
  unfold symV at this
  rw [Bool.and_eq_true] at this
  exact this.1

def loK (l : List Int) (s e : Nat) : Int := l.getD (s ||| 2 ^ e) 0 - l.getD (2 ^ e) 0
def loT (l : List Int) (s : Nat) (b : Int) (e : Nat) : Int := if Nat.testBit s e = false ∧ (b < 0 ∨ loK l s e < loK l s b.toNat) then e else b
def loB (l : List Int) (s : Nat) : Nat → Int
  | 0 => -1
  | e + 1 => loT l s (loB l s e) e
theorem loB_yes {l : List Int} {s e : Nat} (h1 : Nat.testBit s e = false) (h2 : loB l s e < 0 ∨ loK l s e < loK l s (loB l s e).toNat) : loB l s (e + 1) = e := if_pos ⟨h1, h2⟩
theorem loB_no {l : List Int} {s e : Nat} (h : Nat.testBit s e = true ∨ (0 ≤ loB l s e ∧ loK l s (loB l s e).toNat ≤ loK l s e)) : loB l s (e + 1) = loB l s e := if_neg fun h' => by
  rcases h with h | h
  · rw [h] at h'; cases h'.1
  · rcases h'.2 with h2 | h2 <;> omega
theorem loB_spec (l : List Int) (s : Nat) : ∀ e, -1 ≤ loB l s e ∧ loB l s e < e ∧ (0 ≤ loB l s e → Nat.testBit s (loB l s e).toNat = false) ∧ (∀ d, d < e → Nat.testBit s d = false → 0 ≤ loB l s e)
  | 0 => ⟨by unfold loB; omega, by unfold loB; omega, fun h => by unfold loB at h; omega, fun d h => by omega⟩
  | e + 1 => by
    obtain ⟨h1, h2, h3, h4⟩ := loB_spec l s e
    cases hb : Nat.testBit s e with
    | true =>
      rw [loB_no (.inl hb)]
      refine ⟨h1, by omega, h3, fun d hd hdb => ?_⟩
      by_cases e' : d = e
      · subst e'; rw [hb] at hdb; cases hdb
      · exact h4 d (by omega) hdb
    | false =>
      by_cases hc : loB l s e < 0 ∨ loK l s e < loK l s (loB l s e).toNat
      · rw [loB_yes hb hc]
        exact ⟨by omega, by omega, fun _ => by rw [Int.toNat_natCast]; exact hb, fun _ _ _ => by omega⟩
      · rw [loB_no (.inr ⟨by omega, by omega⟩)]
        exact ⟨h1, by omega, h3, fun _ _ _ => by omega⟩
theorem room_all : ((List.range 6).all fun n => (List.range 32).all fun s => !decide (s < 2 ^ n) || (!decide (popN s < n) || (List.range n).any fun d => !Nat.testBit s d)) = true := by kernel_rfl
theorem room {n s : Nat} (hn : n < 6) (hs : s < 2 ^ n) (hp : popN s < n) : ∃ d, d < n ∧ Nat.testBit s d = false := by
  have h32 : 2 ^ n ≤ 32 := Nat.le_trans (Nat.pow_le_pow_right (by omega) (show n ≤ 5 by omega)) (by decide)
  have := List.all_eq_true.1 (List.all_eq_true.1 room_all n (List.mem_range.2 hn)) s (List.mem_range.2 (by omega))
  rw [decide_eq_true hs, decide_eq_true hp, Bool.not_true, Bool.false_or, Bool.false_or, List.any_eq_true] at this
  obtain ⟨d, hd, hb⟩ := this
  rw [Bool.not_eq_true'] at hb
  exact ⟨d, List.mem_range.1 hd, hb⟩
theorem popAdd_all : ((List.range 32).all fun s => (List.range 5).all fun b => Nat.testBit s b || decide (popN (s ||| 2 ^ b) = popN s + 1)) = true := by kernel_rfl
theorem popAdd {s b : Nat} (hs : s < 32) (hb : b < 5) (h : Nat.testBit s b = false) : popN (s ||| 2 ^ b) = popN s + 1 := by
  have := List.all_eq_true.1 (List.all_eq_true.1 popAdd_all s (List.mem_range.2 hs)) b (List.mem_range.2 hb)
  rw [h, Bool.false_or, decide_eq_true_eq] at this
  exact this
theorem pop1 : popN 1 = 1 := by kernel_rfl
def loO (l : List Int) (n : Nat) : Nat → List Int × Nat
  | 0 => ([0], 1)
  | k + 1 => ((loO l n k).1 ++ [loB l (loO l n k).2 n], (loO l n k).2 ||| 2 ^ (loB l (loO l n k).2 n).toNat)
theorem loO_spec (l : List Int) {n : Nat} (hn0 : 1 ≤ n) (hn : n ≤ 5) : ∀ k, k < n → (loO l n k).1.length = k + 1 ∧ (loO l n k).2 < 2 ^ n ∧ popN (loO l n k).2 = k + 1 ∧
    ∀ j, j < k + 1 → 0 ≤ (loO l n k).1.getD j 0 ∧ (loO l n k).1.getD j 0 < n ∧ Nat.testBit (loO l n k).2 ((loO l n k).1.getD j 0).toNat = true
  | 0, _ => ⟨rfl, Nat.one_lt_two_pow (by omega), pop1, fun j hj => by
      obtain rfl : j = 0 := by omega
      refine ⟨Int.le_refl _, by show (0 : Int) < n; omega, by show Nat.testBit 1 0 = true; decide⟩⟩
  | k + 1, hk => by
    obtain ⟨h1, h2, h3, h4⟩ := loO_spec l hn0 hn k (by omega)
    have h32 : 2 ^ n ≤ 32 := Nat.le_trans (Nat.pow_le_pow_right (by omega) (show n ≤ 5 by omega)) (by decide)
    obtain ⟨d, hd, hdb⟩ := room (by omega) h2 (by omega)
    obtain ⟨g1, g2, g3, g4⟩ := loB_spec l (loO l n k).2 n
    have g0 := g4 d hd hdb
    have gb := g3 g0
    refine ⟨by simp [loO, h1], or_lt h2 (by omega), by show popN (_ ||| _) = _; rw [popAdd (by omega) (by omega) gb, h3], fun j hj => ?_⟩
    show 0 ≤ ((loO l n k).1 ++ [loB l (loO l n k).2 n]).getD j 0 ∧ _
    by_cases e : j = k + 1
    · subst e
      have e2 : ((loO l n k).1 ++ [loB l (loO l n k).2 n]).getD (k + 1) 0 = loB l (loO l n k).2 n := by
        rw [List.getD_eq_getElem?_getD, List.getElem?_append_right (by omega), h1, Nat.sub_self]; rfl
      show _ ∧ ((loO l n k).1 ++ [loB l (loO l n k).2 n]).getD (k + 1) 0 < n ∧ Nat.testBit ((loO l n k).2 ||| 2 ^ (loB l (loO l n k).2 n).toNat) (((loO l n k).1 ++ [loB l (loO l n k).2 n]).getD (k + 1) 0).toNat = true
      rw [e2]
      exact ⟨g0, g2, by simp⟩
    · have e2 : ((loO l n k).1 ++ [loB l (loO l n k).2 n]).getD j 0 = (loO l n k).1.getD j 0 := by
        rw [List.getD_eq_getElem?_getD, List.getElem?_append_left (by omega), ← List.getD_eq_getElem?_getD]
      show _ ∧ ((loO l n k).1 ++ [loB l (loO l n k).2 n]).getD j 0 < n ∧ Nat.testBit ((loO l n k).2 ||| 2 ^ (loB l (loO l n k).2 n).toNat) (((loO l n k).1 ++ [loB l (loO l n k).2 n]).getD j 0).toNat = true
      rw [e2]
      obtain ⟨f1, f2, f3⟩ := h4 j (by omega)
      exact ⟨f1, f2, by rw [Nat.testBit_or, f3]; rfl⟩
theorem loO_len (l : List Int) (n k : Nat) : (loO l n k).1.length = k + 1 := by
  induction k with
  | zero => rfl
  | succ k ih => simp [loO, ih]
def tKey : Tab
  | [.i e, .ref [.i n, .sl .i64 l], .ref [.i s]] => some (fnV n l = true ∧ (0 ≤ e ∧ e < n) ∧ (0 ≤ s ∧ s < 2 ^ n.toNat), .i (loK l s.toNat e.toNat), [])
  | _ => none
theorem bit_facts {n : Int} {l : List Int} (hf : fnV n l = true) {s e : Nat} (hs : (s : Int) < 2 ^ n.toNat) (he : (e : Int) < n) :
    IntKind.u64.wrap (e : Int) = e ∧ ishl 1 (e : Int) = ((2 ^ e : Nat) : Int) ∧ ior (s : Int) ((2 ^ e : Nat) : Int) = ((s ||| 2 ^ e : Nat) : Int) ∧ s ||| 2 ^ e < l.length ∧ 2 ^ e < l.length ∧ l.length ≤ 32 := by
  have hf' := fnV_iff.1 hf
  have hlen := fnV_len hf
  have hpw := pow_nat n.toNat
  have hp6 : 2 ^ n.toNat ≤ 32 := Nat.le_trans (Nat.pow_le_pow_right (by omega) (show n.toNat ≤ 5 by omega)) (by decide)
  have h1 := ior_bit (s := s) (i := e) (m := n.toNat) (by omega) (by omega) (by omega)
  have h2 := or_lt (s := s) (i := e) (m := n.toNat) (by omega) (by omega)
  have h3 : 2 ^ e < 2 ^ n.toNat := Nat.pow_lt_pow_right (by omega) (by omega)
  rw [pow_nat] at h1
  exact ⟨u64_id (by omega) (by omega), by rw [ishl_one (by omega) (by omega), Int.toNat_natCast, pow_nat], h1, by omega, by omega, by omega⟩
theorem key_ok : Fits Try.prog 204 tKey := by
  refine ⟨callable_of Try.func204 (by kernel_rfl) rfl, ?_⟩
  intro args p out Ho h hp
  unfold tKey at h
  split at h <;> cases h
  rename_i e n l s
  refine ⟨acall_by (env_ok (env := []) (by simp)) Try.func204 rfl rfl rfl rfl rfl ?_, rfl, rfl⟩
  intro hlen c hc hX
  simp only [lensOk, AV.lenOk, true_and, and_true] at hlen
  simp only [Try.ntmps204, Try.results204, List.length_cons, List.length_nil, List.replicate, List.cons_append, List.nil_append, Nat.reduceAdd, Nat.reduceSub]
  obtain ⟨hf, he, hs⟩ := hp
  obtain ⟨s, rfl⟩ := Int.eq_ofNat_of_zero_le hs.1
  obtain ⟨e, rfl⟩ := Int.eq_ofNat_of_zero_le he.1
  obtain ⟨h1, h2, h3, h4, h5, h6⟩ := bit_facts hf hs.2 he.2
  have hf' := fnV_iff.1 hf
  have b1 := getD_bd hf'.2.2 (s ||| 2 ^ e)
  have b2 := getD_bd hf'.2.2 (2 ^ e)
  have hT : l.getD (s ||| 2 ^ e) 0 - l.getD (2 ^ e) 0 = loK l s e := rfl
  have i1 : ((s ||| 2 ^ e : Nat) : Int) < l.length := by omega
  have i2 : ((2 ^ e : Nat) : Int) < l.length := by omega
  have i3 : (0 : Int) ≤ ((2 ^ e : Nat) : Int) := Int.natCast_nonneg _
  have i4 : (0 : Int) ≤ ((s ||| 2 ^ e : Nat) : Int) := Int.natCast_nonneg _
  repeat' first | ((with_reducible show aol _ _ _ _ _); first | ((first | refine aol_guard_f (by rfl) ?_ ?_ | refine aol_guard_un (by rfl) ?_ ?_); (focus (simp only [go_sem]; done))) | ((first | (refine aol_guard_t (by rfl) ?_ ?_; (focus (simp only [go_sem]; done))) | (refine aol_guard_b (by rfl) (by rfl) (fun h => ?_) (fun h => ?_) <;> (try simp only [hsA, hsB, hsC, hsD, List.all_cons, List.all_nil, ne_eq, reduceCtorEq, inR_iff, inR_not, isSet_iff, isSet_not] at h))) <;> simp (config := { maxSteps := 2000000 }) (disch := omega) only [go_sem, ↓reduceIte, Nat.reduceEqDiff, Nat.reduceAdd, Nat.reduceLT, Nat.reduceLeDiff, Nat.reduceSub, h1, h2, h3, hT]) | simp (config := { maxSteps := 2000000 }) (disch := omega) only [go_sem, ↓reduceIte, Nat.reduceEqDiff, Nat.reduceAdd, Nat.reduceLT, Nat.reduceLeDiff, Nat.reduceSub, h1, h2, h3, hT]) | ((with_reducible refine hK _ ?_); clear hK K; try simp only [thn_n, blk_n, fin_n, finm_n]) | (with_reducible refine awp_seq fun K hK => ?_) | ((with_reducible show Awp _ _ (Code.region _ _ _) _ _); (first | refine awp_regK (by repeat constructor) (fun K hK => ?_) | (refine awp_drwK (by kernel_rfl) (by repeat constructor) (fun K hK => ?_))); simp (config := { maxSteps := 2000000 }) (disch := omega) only [go_sem, ↓reduceIte, Nat.reduceEqDiff, Nat.reduceAdd, Nat.reduceLT, Nat.reduceLeDiff, Nat.reduceSub, h1, h2, h3, hT]) | ((with_reducible show Awp _ _ (Code.cond _ _ _) _ _); refine awp_cond rfl (fun h => ?_) (fun h => ?_) <;> (try simp only [hsA, hsB, hsC, hsD, List.all_cons, List.all_nil, ne_eq, reduceCtorEq, inR_iff, inR_not, isSet_iff, isSet_not] at h)) | ((with_reducible refine awp_skip ?_); simp only [thn_n, blk_n, fin_n, finm_n]) | ((with_reducible refine awp_ret ?_); simp only [thn_r, blk_r, fin_r, finm_r]) | (with_reducible refine awp_block ?_) | ((with_reducible refine awp_exit ?_); simp only [thn_e, blk_e, blk_x, blk_n, thn_n, ne_eq, not_false_eq_true, Nat.reduceEqDiff, reduceCtorEq]; first | (refine hK _ ?_; clear hK K) | (clear hK K; refine hK _ ?_; clear hK K) | (clear hK K; clear hK K; refine hK _ ?_; clear hK K) | (clear hK K; clear hK K; clear hK K; refine hK _ ?_; clear hK K) | skip) | (with_reducible apply And.intro) | (with_reducible exact True.intro) | ((with_reducible show List.all _ _ = true); rfl) | ((with_reducible show lendOk _ _ = true); rfl) | omega | ((first | (with_reducible show ¬ _) | (with_reducible show _ → _)); intro h; first | contradiction | cases h; done | skip)
  all_goals (try (first | refine fin_keep ?_ | refine finm_keep ?_; repeat clear hK))
  refine fin_tmp rfl ?_; simp only [nth_zero, nth_succ, Int.toNat_natCast]
def lgO (n : Int) (l : List Int) : List Int := (loO l n.toNat (n.toNat - 1)).1
def tLo : Tab
  | [.ag [.i n, .sl .i64 l], .i a] => some (fnV n l = true ∧ a = 0 ∧ 2 ≤ n, .own 0, [.row .i64 3 (lgO n l)])
  | _ => none
theorem implLo_ok : Fits Try.prog 156 tLo := by
  refine ⟨callable_of Try.func156 (by kernel_rfl) rfl, ?_⟩
  intro args p out Ho h hp
  unfold tLo at h
  split at h <;> cases h
  rename_i n l a
  refine ⟨acall_by (env_ok (env := [(204, tKey)]) (by simp only [List.forall_mem_cons, List.not_mem_nil, false_implies, implies_true, and_true]; exact key_ok)) Try.func156 rfl rfl rfl rfl rfl ?_, rfl, rfl⟩
  intro hlen c hc hX
  simp only [lensOk, AV.lenOk, true_and, and_true] at hlen
  simp only [Try.ntmps156, Try.results156, List.length_cons, List.length_nil, List.replicate, List.cons_append, List.nil_append, Nat.reduceAdd, Nat.reduceSub]
  obtain ⟨hf, rfl, h2n⟩ := hp
  have hf' := fnV_iff.1 hf
  have hpw := pow_nat n.toNat
  have hp6 : 2 ^ n.toNat ≤ 32 := Nat.le_trans (Nat.pow_le_pow_right (by omega) (show n.toNat ≤ 5 by omega)) (by decide)
  have hs0 : ishl 1 (IntKind.u64.wrap 0) = 1 := by decide
  repeat' first | ((with_reducible show aol _ _ _ _ _); first | ((first | refine aol_guard_f (by rfl) ?_ ?_ | refine aol_guard_un (by rfl) ?_ ?_); (focus (simp only [go_sem]; done))) | ((first | (refine aol_guard_t (by rfl) ?_ ?_; (focus (simp only [go_sem]; done))) | (refine aol_guard_b (by rfl) (by rfl) (fun h => ?_) (fun h => ?_) <;> (try simp only [hsA, hsB, hsC, hsD, List.all_cons, List.all_nil, ne_eq, reduceCtorEq, inR_iff, inR_not, isSet_iff, isSet_not] at h))) <;> simp (config := { maxSteps := 2000000 }) (disch := omega) only [go_sem, ↓reduceIte, Nat.reduceEqDiff, Nat.reduceAdd, Nat.reduceLT, Nat.reduceLeDiff, Nat.reduceSub, hs0]) | simp (config := { maxSteps := 2000000 }) (disch := omega) only [go_sem, ↓reduceIte, Nat.reduceEqDiff, Nat.reduceAdd, Nat.reduceLT, Nat.reduceLeDiff, Nat.reduceSub, hs0]) | ((with_reducible refine hK _ ?_); clear hK K; try simp only [thn_n, blk_n, fin_n, finm_n]) | (with_reducible refine awp_seq fun K hK => ?_) | ((with_reducible show Awp _ _ (Code.region _ _ _) _ _); (first | refine awp_regK (by repeat constructor) (fun K hK => ?_) | (refine awp_drwK (by kernel_rfl) (by repeat constructor) (fun K hK => ?_))); simp (config := { maxSteps := 2000000 }) (disch := omega) only [go_sem, ↓reduceIte, Nat.reduceEqDiff, Nat.reduceAdd, Nat.reduceLT, Nat.reduceLeDiff, Nat.reduceSub, hs0]) | ((with_reducible show Awp _ _ (Code.cond _ _ _) _ _); refine awp_cond rfl (fun h => ?_) (fun h => ?_) <;> (try simp only [hsA, hsB, hsC, hsD, List.all_cons, List.all_nil, ne_eq, reduceCtorEq, inR_iff, inR_not, isSet_iff, isSet_not] at h)) | ((with_reducible refine awp_skip ?_); simp only [thn_n, blk_n, fin_n, finm_n]) | ((with_reducible refine awp_ret ?_); simp only [thn_r, blk_r, fin_r, finm_r]) | (with_reducible refine awp_block ?_) | ((with_reducible refine awp_exit ?_); simp only [thn_e, blk_e, blk_x, blk_n, thn_n, ne_eq, not_false_eq_true, Nat.reduceEqDiff, reduceCtorEq]; first | (refine hK _ ?_; clear hK K) | (clear hK K; refine hK _ ?_; clear hK K) | (clear hK K; clear hK K; refine hK _ ?_; clear hK K) | (clear hK K; clear hK K; clear hK K; refine hK _ ?_; clear hK K) | skip) | (with_reducible apply And.intro) | (with_reducible exact True.intro) | ((with_reducible show List.all _ _ = true); rfl) | ((with_reducible show lendOk _ _ = true); rfl) | omega | ((first | (with_reducible show ¬ _) | (with_reducible show _ → _)); intro h; first | contradiction | cases h; done | skip)
  all_goals (try (first | refine fin_keep ?_ | refine finm_keep ?_; repeat clear hK))
  refine awp_forR 0 hX (fun st (k : Nat) => st.at [2, 6, 7] [(5, .own 1)] [.box 26 [.i n, .sl .i64 l], .row .i64 3 (loO l n.toNat k).1, .box 3 [.i ((loO l n.toNat k).2 : Nat)]]) (fun k => k + 1 ≤ n.toNat) (fun k => n.toNat - k) 0 (by omega) ?_ ?_
  · exact ⟨[0, 1, 2], rfl, rfl, by simp [-List.getD_eq_getElem?_getD, -List.length_take, List.getD_cons_zero, List.getD_cons_succ, leFr, ASt.at, keepFr, updAll, upd_zero, upd_succ, AV.rnb, AV.rnb0, loO], by simp [-List.getD_eq_getElem?_getD, List.getD_cons_zero, List.getD_cons_succ, ASt.at, AO.rnb, AV.rnb0, upd_k0, upd_k1, upd_k2, upd_k3, loO], rfl, rfl⟩
  rintro k hk
  simp only [ASt.at, keepFr, updAll, upd_zero, upd_succ, List.mem_cons, List.not_mem_nil, Nat.reduceEqDiff, Nat.reduceAdd, or_false, or_true, false_or, true_or, ↓reduceIte, eq_self]
  have hll := loO_len l n.toNat k
  obtain ⟨g1, g2, g3, g4⟩ := loO_spec l (n := n.toNat) (by omega) (by omega) k (by omega)
  rcases Nat.lt_or_ge (k + 1) n.toNat with hkl | hkl
  · repeat' first | ((with_reducible show aol _ _ _ _ _); first | ((first | refine aol_guard_f (by rfl) ?_ ?_ | refine aol_guard_un (by rfl) ?_ ?_); (focus (simp only [go_sem]; done))) | ((first | (refine aol_guard_t (by rfl) ?_ ?_; (focus (simp only [go_sem]; done))) | (refine aol_guard_b (by rfl) (by rfl) (fun h => ?_) (fun h => ?_) <;> (try simp only [hsA, hsB, hsC, hsD, List.all_cons, List.all_nil, ne_eq, reduceCtorEq, inR_iff, inR_not, isSet_iff, isSet_not] at h))) <;> simp (config := { maxSteps := 2000000 }) (disch := omega) only [go_sem, ↓reduceIte, Nat.reduceEqDiff, Nat.reduceAdd, Nat.reduceLT, Nat.reduceLeDiff, Nat.reduceSub, hll]) | simp (config := { maxSteps := 2000000 }) (disch := omega) only [go_sem, ↓reduceIte, Nat.reduceEqDiff, Nat.reduceAdd, Nat.reduceLT, Nat.reduceLeDiff, Nat.reduceSub, hll]) | ((with_reducible refine hK _ ?_); clear hK K; try simp only [thn_n, blk_n, fin_n, finm_n]) | (with_reducible refine awp_seq fun K hK => ?_) | ((with_reducible show Awp _ _ (Code.region _ _ _) _ _); (first | refine awp_regK (by repeat constructor) (fun K hK => ?_) | (refine awp_drwK (by kernel_rfl) (by repeat constructor) (fun K hK => ?_))); simp (config := { maxSteps := 2000000 }) (disch := omega) only [go_sem, ↓reduceIte, Nat.reduceEqDiff, Nat.reduceAdd, Nat.reduceLT, Nat.reduceLeDiff, Nat.reduceSub, hll]) | ((with_reducible show Awp _ _ (Code.cond _ _ _) _ _); refine awp_cond rfl (fun h => ?_) (fun h => ?_) <;> (try simp only [hsA, hsB, hsC, hsD, List.all_cons, List.all_nil, ne_eq, reduceCtorEq, inR_iff, inR_not, isSet_iff, isSet_not] at h)) | ((with_reducible refine awp_skip ?_); simp only [thn_n, blk_n, fin_n, finm_n]) | ((with_reducible refine awp_ret ?_); simp only [thn_r, blk_r, fin_r, finm_r]) | (with_reducible refine awp_block ?_) | ((with_reducible refine awp_exit ?_); simp only [thn_e, blk_e, blk_x, blk_n, thn_n, ne_eq, not_false_eq_true, Nat.reduceEqDiff, reduceCtorEq]; first | (refine hK _ ?_; clear hK K) | (clear hK K; refine hK _ ?_; clear hK K) | (clear hK K; clear hK K; refine hK _ ?_; clear hK K) | (clear hK K; clear hK K; clear hK K; refine hK _ ?_; clear hK K) | skip) | (with_reducible apply And.intro) | (with_reducible exact True.intro) | ((with_reducible show List.all _ _ = true); rfl) | ((with_reducible show lendOk _ _ = true); rfl) | omega | ((first | (with_reducible show ¬ _) | (with_reducible show _ → _)); intro h; first | contradiction | cases h; done | skip)
    all_goals (try (first | refine fin_keep ?_ | refine finm_keep ?_; repeat clear hK))
    refine awp_for (fun st (e : Nat) => st.at [2, 5, 6, 7, 22] [(8, .i (loB l (loO l n.toNat k).2 e)), (23, .i e)] st.hp) (fun e => e ≤ n.toNat) (fun e => n.toNat - e) 0 (Nat.zero_le _) ?_ ?_
    · simp [-List.getD_eq_getElem?_getD, -List.length_take, Le, leFr, ASt.at, keepFr, updAll, upd_zero, upd_succ, loB]
    rintro e he
    simp only [ASt.at, keepFr, updAll, upd_zero, upd_succ, List.mem_cons, List.not_mem_nil, Nat.reduceEqDiff, Nat.reduceAdd, or_false, or_true, false_or, true_or, ↓reduceIte, eq_self]
    obtain ⟨q1, q2, q3, q4⟩ := loB_spec l (loO l n.toNat k).2 e
    rcases Nat.lt_or_ge e n.toNat with hel | hel
    · have hu := u64_id (n := (e : Int)) (by omega) (by omega)
      have hib := ibit (s := (loO l n.toNat k).2) (e := e) (by omega) (by omega)
      cases hb : Nat.testBit (loO l n.toNat k).2 e with
      | true =>
        rw [hb, if_pos rfl] at hib
        repeat' first | ((with_reducible show aol _ _ _ _ _); first | ((first | refine aol_guard_f (by rfl) ?_ ?_ | refine aol_guard_un (by rfl) ?_ ?_); (focus (simp only [go_sem]; done))) | ((first | (refine aol_guard_t (by rfl) ?_ ?_; (focus (simp only [go_sem]; done))) | (refine aol_guard_b (by rfl) (by rfl) (fun h => ?_) (fun h => ?_) <;> (try simp only [hsA, hsB, hsC, hsD, List.all_cons, List.all_nil, ne_eq, reduceCtorEq, inR_iff, inR_not, isSet_iff, isSet_not] at h))) <;> simp (config := { maxSteps := 2000000 }) (disch := omega) only [go_sem, ↓reduceIte, Nat.reduceEqDiff, Nat.reduceAdd, Nat.reduceLT, Nat.reduceLeDiff, Nat.reduceSub, hu, hib]) | simp (config := { maxSteps := 2000000 }) (disch := omega) only [go_sem, ↓reduceIte, Nat.reduceEqDiff, Nat.reduceAdd, Nat.reduceLT, Nat.reduceLeDiff, Nat.reduceSub, hu, hib]) | ((with_reducible refine hK _ ?_); clear hK K; try simp only [thn_n, blk_n, fin_n, finm_n]) | (with_reducible refine awp_seq fun K hK => ?_) | ((with_reducible show Awp _ _ (Code.region _ _ _) _ _); (first | refine awp_regK (by repeat constructor) (fun K hK => ?_) | (refine awp_drwK (by kernel_rfl) (by repeat constructor) (fun K hK => ?_))); simp (config := { maxSteps := 2000000 }) (disch := omega) only [go_sem, ↓reduceIte, Nat.reduceEqDiff, Nat.reduceAdd, Nat.reduceLT, Nat.reduceLeDiff, Nat.reduceSub, hu, hib]) | ((with_reducible show Awp _ _ (Code.cond _ _ _) _ _); refine awp_cond rfl (fun h => ?_) (fun h => ?_) <;> (try simp only [hsA, hsB, hsC, hsD, List.all_cons, List.all_nil, ne_eq, reduceCtorEq, inR_iff, inR_not, isSet_iff, isSet_not] at h)) | ((with_reducible refine awp_skip ?_); simp only [thn_n, blk_n, fin_n, finm_n]) | ((with_reducible refine awp_ret ?_); simp only [thn_r, blk_r, fin_r, finm_r]) | (with_reducible refine awp_block ?_) | ((with_reducible refine awp_exit ?_); simp only [thn_e, blk_e, blk_x, blk_n, thn_n, ne_eq, not_false_eq_true, Nat.reduceEqDiff, reduceCtorEq]; first | (refine hK _ ?_; clear hK K) | (clear hK K; refine hK _ ?_; clear hK K) | (clear hK K; clear hK K; refine hK _ ?_; clear hK K) | (clear hK K; clear hK K; clear hK K; refine hK _ ?_; clear hK K) | skip) | (with_reducible apply And.intro) | (with_reducible exact True.intro) | ((with_reducible show List.all _ _ = true); rfl) | ((with_reducible show lendOk _ _ = true); rfl) | omega | ((first | (with_reducible show ¬ _) | (with_reducible show _ → _)); intro h; first | contradiction | cases h; done | skip)
        all_goals (try (first | refine fin_keep ?_ | refine finm_keep ?_; repeat clear hK))
        have e1 := loB_no (l := l) (s := (loO l n.toNat k).2) (e := e) (.inl hb)
        refine ⟨e + 1, by omega, by omega, ?_⟩
        simp [-List.getD_eq_getElem?_getD, -List.length_take, Le, leFr, ASt.at, keepFr, updAll, upd_zero, upd_succ, e1]
      | false =>
        rw [hb, if_neg (by decide)] at hib
        repeat' first | ((with_reducible show aol _ _ _ _ _); first | ((first | refine aol_guard_f (by rfl) ?_ ?_ | refine aol_guard_un (by rfl) ?_ ?_); (focus (simp only [go_sem]; done))) | ((first | (refine aol_guard_t (by rfl) ?_ ?_; (focus (simp only [go_sem]; done))) | (refine aol_guard_b (by rfl) (by rfl) (fun h => ?_) (fun h => ?_) <;> (try simp only [hsA, hsB, hsC, hsD, List.all_cons, List.all_nil, ne_eq, reduceCtorEq, inR_iff, inR_not, isSet_iff, isSet_not] at h))) <;> simp (config := { maxSteps := 2000000 }) (disch := omega) only [go_sem, ↓reduceIte, Nat.reduceEqDiff, Nat.reduceAdd, Nat.reduceLT, Nat.reduceLeDiff, Nat.reduceSub, hu, hib, tKey, hf]) | simp (config := { maxSteps := 2000000 }) (disch := omega) only [go_sem, ↓reduceIte, Nat.reduceEqDiff, Nat.reduceAdd, Nat.reduceLT, Nat.reduceLeDiff, Nat.reduceSub, hu, hib, tKey, hf]) | ((with_reducible refine hK _ ?_); clear hK K; try simp only [thn_n, blk_n, fin_n, finm_n]) | (with_reducible refine awp_seq fun K hK => ?_) | ((with_reducible show Awp _ _ (Code.region _ _ _) _ _); (first | refine awp_regK (by repeat constructor) (fun K hK => ?_) | (refine awp_drwK (by kernel_rfl) (by repeat constructor) (fun K hK => ?_))); simp (config := { maxSteps := 2000000 }) (disch := omega) only [go_sem, ↓reduceIte, Nat.reduceEqDiff, Nat.reduceAdd, Nat.reduceLT, Nat.reduceLeDiff, Nat.reduceSub, hu, hib, tKey, hf]) | ((with_reducible show Awp _ _ (Code.cond _ _ _) _ _); refine awp_cond rfl (fun h => ?_) (fun h => ?_) <;> (try simp only [hsA, hsB, hsC, hsD, List.all_cons, List.all_nil, ne_eq, reduceCtorEq, inR_iff, inR_not, isSet_iff, isSet_not] at h)) | ((with_reducible refine awp_skip ?_); simp only [thn_n, blk_n, fin_n, finm_n]) | ((with_reducible refine awp_ret ?_); simp only [thn_r, blk_r, fin_r, finm_r]) | (with_reducible refine awp_block ?_) | ((with_reducible refine awp_exit ?_); simp only [thn_e, blk_e, blk_x, blk_n, thn_n, ne_eq, not_false_eq_true, Nat.reduceEqDiff, reduceCtorEq]; first | (refine hK _ ?_; clear hK K) | (clear hK K; refine hK _ ?_; clear hK K) | (clear hK K; clear hK K; refine hK _ ?_; clear hK K) | (clear hK K; clear hK K; clear hK K; refine hK _ ?_; clear hK K) | skip) | (with_reducible apply And.intro) | (with_reducible exact True.intro) | ((with_reducible show List.all _ _ = true); rfl) | ((with_reducible show lendOk _ _ = true); rfl) | omega | ((first | (with_reducible show ¬ _) | (with_reducible show _ → _)); intro h; first | contradiction | cases h; done | skip)
        all_goals (try (first | refine fin_keep ?_ | refine finm_keep ?_; repeat clear hK))
        · have e1 := loB_yes (l := l) (s := (loO l n.toNat k).2) (e := e) hb (.inr (by assumption))
          refine ⟨e + 1, by omega, by omega, ?_⟩
          simp [-List.getD_eq_getElem?_getD, -List.length_take, Le, leFr, ASt.at, keepFr, updAll, upd_zero, upd_succ, e1]
        · have e1 := loB_no (l := l) (s := (loO l n.toNat k).2) (e := e) (.inr ⟨by assumption, by assumption⟩)
          refine ⟨e + 1, by omega, by omega, ?_⟩
          simp [-List.getD_eq_getElem?_getD, -List.length_take, Le, leFr, ASt.at, keepFr, updAll, upd_zero, upd_succ, e1]
        · have e1 := loB_yes (l := l) (s := (loO l n.toNat k).2) (e := e) hb (.inl (by assumption))
          refine ⟨e + 1, by omega, by omega, ?_⟩
          simp [-List.getD_eq_getElem?_getD, -List.length_take, Le, leFr, ASt.at, keepFr, updAll, upd_zero, upd_succ, e1]
    · obtain rfl : e = n.toNat := by omega
      obtain ⟨d, hd, hdb⟩ := room (by omega) g2 (by omega)
      have q0 := q4 d hd hdb
      obtain ⟨b, hbb⟩ := Int.eq_ofNat_of_zero_le q0
      obtain ⟨h1, h2, h3, h4, h5, h6⟩ := bit_facts hf (s := (loO l n.toNat k).2) (e := b) (by omega) (by omega)
      have hnx : loO l n.toNat (k + 1) = ((loO l n.toNat k).1 ++ [(b : Int)], (loO l n.toNat k).2 ||| 2 ^ b) := by
        show ((loO l n.toNat k).1 ++ [loB l (loO l n.toNat k).2 n.toNat], (loO l n.toNat k).2 ||| 2 ^ (loB l (loO l n.toNat k).2 n.toNat).toNat) = _
        rw [hbb, Int.toNat_natCast]
      repeat' first | ((with_reducible show aol _ _ _ _ _); first | ((first | refine aol_guard_f (by rfl) ?_ ?_ | refine aol_guard_un (by rfl) ?_ ?_); (focus (simp only [go_sem]; done))) | ((first | (refine aol_guard_t (by rfl) ?_ ?_; (focus (simp only [go_sem]; done))) | (refine aol_guard_b (by rfl) (by rfl) (fun h => ?_) (fun h => ?_) <;> (try simp only [hsA, hsB, hsC, hsD, List.all_cons, List.all_nil, ne_eq, reduceCtorEq, inR_iff, inR_not, isSet_iff, isSet_not] at h))) <;> simp (config := { maxSteps := 2000000 }) (disch := omega) only [go_sem, ↓reduceIte, Nat.reduceEqDiff, Nat.reduceAdd, Nat.reduceLT, Nat.reduceLeDiff, Nat.reduceSub, hbb, h1, h2, h3]) | simp (config := { maxSteps := 2000000 }) (disch := omega) only [go_sem, ↓reduceIte, Nat.reduceEqDiff, Nat.reduceAdd, Nat.reduceLT, Nat.reduceLeDiff, Nat.reduceSub, hbb, h1, h2, h3]) | ((with_reducible refine hK _ ?_); clear hK K; try simp only [thn_n, blk_n, fin_n, finm_n]) | (with_reducible refine awp_seq fun K hK => ?_) | ((with_reducible show Awp _ _ (Code.region _ _ _) _ _); (first | refine awp_regK (by repeat constructor) (fun K hK => ?_) | (refine awp_drwK (by kernel_rfl) (by repeat constructor) (fun K hK => ?_))); simp (config := { maxSteps := 2000000 }) (disch := omega) only [go_sem, ↓reduceIte, Nat.reduceEqDiff, Nat.reduceAdd, Nat.reduceLT, Nat.reduceLeDiff, Nat.reduceSub, hbb, h1, h2, h3]) | ((with_reducible show Awp _ _ (Code.cond _ _ _) _ _); refine awp_cond rfl (fun h => ?_) (fun h => ?_) <;> (try simp only [hsA, hsB, hsC, hsD, List.all_cons, List.all_nil, ne_eq, reduceCtorEq, inR_iff, inR_not, isSet_iff, isSet_not] at h)) | ((with_reducible refine awp_skip ?_); simp only [thn_n, blk_n, fin_n, finm_n]) | ((with_reducible refine awp_ret ?_); simp only [thn_r, blk_r, fin_r, finm_r]) | (with_reducible refine awp_block ?_) | ((with_reducible refine awp_exit ?_); simp only [thn_e, blk_e, blk_x, blk_n, thn_n, ne_eq, not_false_eq_true, Nat.reduceEqDiff, reduceCtorEq]; first | (refine hK _ ?_; clear hK K) | (clear hK K; refine hK _ ?_; clear hK K) | (clear hK K; clear hK K; refine hK _ ?_; clear hK K) | (clear hK K; clear hK K; clear hK K; refine hK _ ?_; clear hK K) | skip) | (with_reducible apply And.intro) | (with_reducible exact True.intro) | ((with_reducible show List.all _ _ = true); rfl) | ((with_reducible show lendOk _ _ = true); rfl) | omega | ((first | (with_reducible show ¬ _) | (with_reducible show _ → _)); intro h; first | contradiction | cases h; done | skip)
      all_goals (try (first | refine fin_keep ?_ | refine finm_keep ?_; repeat clear hK))
      refine ⟨k + 1, by omega, by omega, ?_⟩
      rw [hnx]
      exact ⟨[0, 4, 2], rfl, rfl, by simp [-List.getD_eq_getElem?_getD, -List.length_take, List.getD_cons_zero, List.getD_cons_succ, leFr, ASt.at, keepFr, updAll, upd_zero, upd_succ, AV.rnb, AV.rnb0], by simp [-List.getD_eq_getElem?_getD, List.getD_cons_zero, List.getD_cons_succ, ASt.at, AO.rnb, AV.rnb0, upd_k0, upd_k1, upd_k2, upd_k3], rfl, rfl⟩
  · obtain rfl : k = n.toNat - 1 := by omega
    repeat' first | ((with_reducible show aol _ _ _ _ _); first | ((first | refine aol_guard_f (by rfl) ?_ ?_ | refine aol_guard_un (by rfl) ?_ ?_); (focus (simp only [go_sem]; done))) | ((first | (refine aol_guard_t (by rfl) ?_ ?_; (focus (simp only [go_sem]; done))) | (refine aol_guard_b (by rfl) (by rfl) (fun h => ?_) (fun h => ?_) <;> (try simp only [hsA, hsB, hsC, hsD, List.all_cons, List.all_nil, ne_eq, reduceCtorEq, inR_iff, inR_not, isSet_iff, isSet_not] at h))) <;> simp (config := { maxSteps := 2000000 }) (disch := omega) only [go_sem, ↓reduceIte, Nat.reduceEqDiff, Nat.reduceAdd, Nat.reduceLT, Nat.reduceLeDiff, Nat.reduceSub, hll]) | simp (config := { maxSteps := 2000000 }) (disch := omega) only [go_sem, ↓reduceIte, Nat.reduceEqDiff, Nat.reduceAdd, Nat.reduceLT, Nat.reduceLeDiff, Nat.reduceSub, hll]) | ((with_reducible refine hK _ ?_); clear hK K; try simp only [thn_n, blk_n, fin_n, finm_n]) | (with_reducible refine awp_seq fun K hK => ?_) | ((with_reducible show Awp _ _ (Code.region _ _ _) _ _); (first | refine awp_regK (by repeat constructor) (fun K hK => ?_) | (refine awp_drwK (by kernel_rfl) (by repeat constructor) (fun K hK => ?_))); simp (config := { maxSteps := 2000000 }) (disch := omega) only [go_sem, ↓reduceIte, Nat.reduceEqDiff, Nat.reduceAdd, Nat.reduceLT, Nat.reduceLeDiff, Nat.reduceSub, hll]) | ((with_reducible show Awp _ _ (Code.cond _ _ _) _ _); refine awp_cond rfl (fun h => ?_) (fun h => ?_) <;> (try simp only [hsA, hsB, hsC, hsD, List.all_cons, List.all_nil, ne_eq, reduceCtorEq, inR_iff, inR_not, isSet_iff, isSet_not] at h)) | ((with_reducible refine awp_skip ?_); simp only [thn_n, blk_n, fin_n, finm_n]) | ((with_reducible refine awp_ret ?_); simp only [thn_r, blk_r, fin_r, finm_r]) | (with_reducible refine awp_block ?_) | ((with_reducible refine awp_exit ?_); simp only [thn_e, blk_e, blk_x, blk_n, thn_n, ne_eq, not_false_eq_true, Nat.reduceEqDiff, reduceCtorEq]; first | (refine hK _ ?_; clear hK K) | (clear hK K; refine hK _ ?_; clear hK K) | (clear hK K; clear hK K; refine hK _ ?_; clear hK K) | (clear hK K; clear hK K; clear hK K; refine hK _ ?_; clear hK K) | skip) | (with_reducible apply And.intro) | (with_reducible exact True.intro) | ((with_reducible show List.all _ _ = true); rfl) | ((with_reducible show lendOk _ _ = true); rfl) | omega | ((first | (with_reducible show ¬ _) | (with_reducible show _ → _)); intro h; first | contradiction | cases h; done | skip)
    all_goals (try (first | refine fin_keep ?_ | refine finm_keep ?_; repeat clear hK))
    exact fin_own rfl rfl
end Go.Proofs.Ytjlpjkiadohkiaa
