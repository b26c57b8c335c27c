import Derived.Test.YtjlpjkiadohkiaaHs
import Derived.Test.YtjlpjkiadohkiaaT30
set_option linter.unusedSimpArgs false
set_option linter.unusedVariables false
set_option maxHeartbeats 2000000
namespace Go.Proofs.Ytjlpjkiadohkiaa
open Go Go.Ab
attribute [local irreducible] aol
attribute [local irreducible] popN


def opF (n : Int) (l : List Int) (s : Int) : Int := l.getD (cbF n - s.toNat) 0
def opL (n : Int) (l : List Int) : List Int := mkL (opF n l) (2 ^ n.toNat)
theorem op_fn {n : Int} {l : List Int} (h : fnV n l = true) : fnV n (opL n l) = true := mk_fn (fnV_iff.1 h).1 fun k _ => getD_bd (fnV_iff.1 h).2.2 _
def tOpC : Tab
  | [.i s, .ref [.i n, .sl .i64 l]] => some (fnV n l = true ∧ (0 ≤ s ∧ s < 2 ^ n.toNat), .i (opF n l s), [])
  | _ => none
theorem full_andn {n : Int} {s : Nat} (hn : 0 ≤ n ∧ n ≤ 5) (hs : s < 2 ^ n.toNat) : iandn (cbF n : Int) (s : Int) = ((cbF n - s : Nat) : Int) := by
  have hp6 : 2 ^ n.toNat ≤ 32 := Nat.le_trans (Nat.pow_le_pow_right (by omega) (show n.toNat ≤ 5 by omega)) (by decide)
  have hcl := cbF_lt n
  have hnf := nfull (n := n.toNat) (s := s) (by omega) hs
  rw [iandn_nat (by omega) (by omega)]
  have e : cbF n = 2 ^ n.toNat - 1 := rfl
  rw [e, hnf]
theorem opC_ok : Fits Try.prog 210 tOpC := by
  refine ⟨callable_of Try.func210 (by kernel_rfl) rfl, ?_⟩
  intro args p out Ho h hp
  unfold tOpC at h
  split at h <;> cases h
  rename_i s n l
  refine ⟨acall_by (env_ok (env := [(133, tAllOf)]) (by simp only [List.forall_mem_cons, List.not_mem_nil, false_implies, implies_true, and_true]; exact allOf_ok)) Try.func210 rfl rfl rfl rfl rfl ?_, rfl, rfl⟩
  intro hlen c hc hX
  simp only [lensOk, AV.lenOk, true_and, and_true] at hlen
  simp only [Try.ntmps210, Try.results210, List.length_cons, List.length_nil, List.replicate, List.cons_append, List.nil_append, Nat.reduceAdd, Nat.reduceSub]
  obtain ⟨hf, hs⟩ := hp
  have hlen1 := fnV_len hf
  have hf' := fnV_iff.1 hf
  obtain ⟨s, rfl⟩ := Int.eq_ofNat_of_zero_le hs.1
  have hF := cbF_eq n
  have hcl := cbF_lt n
  have hpw := pow_nat n.toNat
  have hx := full_andn (s := s) hf'.1 (by omega)
  repeat' first | ((with_reducible show aol _ _ _ _ _); first | (refine aol_guard_f (by rfl) ?_ ?_; (focus (simp only [go_sem]; done))) | (refine aol_guard_un (by rfl) ?_ ?_; (focus (simp only [go_sem]; done)))) | ((with_reducible refine hK _ ?_); clear hK K; try simp only [nxA, nxB]) | (with_reducible refine awp_seq fun K hK => ?_) | ((first | ((with_reducible show aol _ _ _ _ _); try first | (refine aol_guard_t (by rfl) ?_ ?_; (focus (simp only [go_sem]; done))) | (refine aol_guard_b (by rfl) (by rfl) (fun h => ?_) (fun h => ?_) <;> (try simp only [hsA, hsB, hsC, hsD, hsE, List.all_cons, List.all_nil, ne_eq, reduceCtorEq] at h))) | ((with_reducible show Awp _ _ (Code.region _ _ _) _ _); first | refine awp_regK (by repeat constructor) (fun K hK => ?_) | (refine awp_drwK (by kernel_rfl) (by repeat constructor) (fun K hK => ?_)))) <;> simp (config := { maxSteps := 2000000 }) (disch := omega) only [go_sem, ↓reduceIte, Nat.reduceEqDiff, Nat.reduceAdd, Nat.reduceLT, Nat.reduceLeDiff, Nat.reduceSub, tAllOf, hF, hx]) | ((with_reducible show Awp _ _ (Code.cond _ _ _) _ _); refine awp_cond rfl (fun h => ?_) (fun h => ?_) <;> (try simp only [hsA, hsB, hsC, hsD, hsE, List.all_cons, List.all_nil, ne_eq, reduceCtorEq] at h)) | ((with_reducible first | refine awp_skip ?_ | refine awp_ret ?_); simp only [nxA, nxB]) | (with_reducible refine awp_block ?_) | ((with_reducible refine awp_exit ?_); simp only [nxA, ne_eq, not_false_eq_true, Nat.reduceEqDiff, reduceCtorEq]; try ((first | refine hK _ ?_ | (clear hK K; first | refine hK _ ?_ | (clear hK K; first | refine hK _ ?_ | (clear hK K; refine hK _ ?_)))); clear hK K)) | (with_reducible first | apply And.intro | exact True.intro) | ((with_reducible first | show List.all _ _ = true | show lendOk _ _ = true); rfl) | omega | ((with_reducible first | show ¬ _ | show _ → _); intro h; first | contradiction | cases h; done | skip)
  all_goals (try (first | refine fin_keep ?_ | refine finm_keep ?_; repeat clear hK))
  refine fin_tmp rfl ?_; simp only [nth_zero, nth_succ, opF, Int.toNat_natCast]
def tOpCF : Tab
  | [.i n, .fn 210 [.ref [.i m, .sl .i64 l]]] => some ((0 ≤ n ∧ n ≤ 5) ∧ (n = m ∧ fnV n l = true), .tu [.ag [.i (or0 (fnV n (mkL (opF n l) (2 ^ n.toNat))) n), .own 0], .b (fnV n (mkL (opF n l) (2 ^ n.toNat)))], [.row .i64 3 (orE (fnV n (mkL (opF n l) (2 ^ n.toNat))) (mkL (opF n l) (2 ^ n.toNat)))])
  | _ => none
theorem OpCF_ok : Fits Try.prog 116 tOpCF := by
  refine ⟨callable_of Try.func116 (by kernel_rfl) rfl, ?_⟩
  intro args p out Ho h hp
  unfold tOpCF at h
  split at h <;> cases h
  rename_i n m l
  refine ⟨acall_by (env_ok (env := [(210, tOpC), (144, tIsFn)]) (by simp only [List.forall_mem_cons, List.not_mem_nil, false_implies, implies_true, and_true]; exact ⟨opC_ok, implIsFn_ok⟩)) Try.func116 rfl rfl rfl rfl rfl ?_, rfl, rfl⟩
  intro hlen c hc hX
  simp only [lensOk, AV.lenOk, true_and, and_true] at hlen
  simp only [Try.ntmps116, Try.results116, List.length_cons, List.length_nil, List.replicate, List.cons_append, List.nil_append, Nat.reduceAdd, Nat.reduceSub]
  obtain ⟨hn, hpre⟩ := hp
  obtain ⟨rfl, hpre⟩ := hpre
  have hu := u64_id (n := n) (by omega) (by omega)
  have hsh := ishl_one (n := n) hn.1 (by omega)
  have hpw := pow_nat n.toNat
  have hp6 : 2 ^ n.toNat ≤ 64 := Nat.le_trans (Nat.pow_le_pow_right (by omega) (show n.toNat ≤ 6 by omega)) (by decide)
  repeat' first | ((with_reducible show aol _ _ _ _ _); first | (refine aol_guard_f (by rfl) ?_ ?_; (focus (simp only [go_sem]; done))) | (refine aol_guard_un (by rfl) ?_ ?_; (focus (simp only [go_sem]; done)))) | ((with_reducible refine hK _ ?_); clear hK K; try simp only [nxA, nxB]) | (with_reducible refine awp_seq fun K hK => ?_) | ((first | ((with_reducible show aol _ _ _ _ _); try first | (refine aol_guard_t (by rfl) ?_ ?_; (focus (simp only [go_sem]; done))) | (refine aol_guard_b (by rfl) (by rfl) (fun h => ?_) (fun h => ?_) <;> (try simp only [hsA, hsB, hsC, hsD, hsE, List.all_cons, List.all_nil, ne_eq, reduceCtorEq] at h))) | ((with_reducible show Awp _ _ (Code.region _ _ _) _ _); first | refine awp_regK (by repeat constructor) (fun K hK => ?_) | (refine awp_drwK (by kernel_rfl) (by repeat constructor) (fun K hK => ?_)))) <;> simp (config := { maxSteps := 2000000 }) (disch := omega) only [go_sem, ↓reduceIte, Nat.reduceEqDiff, Nat.reduceAdd, Nat.reduceLT, Nat.reduceLeDiff, Nat.reduceSub, tOpC, hu, hsh]) | ((with_reducible show Awp _ _ (Code.cond _ _ _) _ _); refine awp_cond rfl (fun h => ?_) (fun h => ?_) <;> (try simp only [hsA, hsB, hsC, hsD, hsE, List.all_cons, List.all_nil, ne_eq, reduceCtorEq] at h)) | ((with_reducible first | refine awp_skip ?_ | refine awp_ret ?_); simp only [nxA, nxB]) | (with_reducible refine awp_block ?_) | ((with_reducible refine awp_exit ?_); simp only [nxA, ne_eq, not_false_eq_true, Nat.reduceEqDiff, reduceCtorEq]; try ((first | refine hK _ ?_ | (clear hK K; first | refine hK _ ?_ | (clear hK K; first | refine hK _ ?_ | (clear hK K; refine hK _ ?_)))); clear hK K)) | (with_reducible first | apply And.intro | exact True.intro) | ((with_reducible first | show List.all _ _ = true | show lendOk _ _ = true); rfl) | omega | ((with_reducible first | show ¬ _ | show _ → _); intro h; first | contradiction | cases h; done | skip)
  all_goals (try (first | refine fin_keep ?_ | refine finm_keep ?_; repeat clear hK))
  refine awp_wk (wk_cell .i64 3 (b := 1) (j := 1) rfl rfl (by simp)) ?_
  refine awp_forR 0 hX (fun st (k : Nat) => st.at [1, 4, 6, 12] [(13, .i k)] [.box 26 [.i 0, .nl], .box 26 [.i n, .own 2], .row .i64 3 (mkL (opF n l) k)]) (fun k => k ≤ 2 ^ n.toNat) (fun k => 2 ^ n.toNat - k) 0 (Nat.zero_le _) ?_ ?_
  · exact ⟨[0, 1, 2], rfl, rfl, by simp [-List.getD_eq_getElem?_getD, -List.length_take, List.getD_cons_zero, List.getD_cons_succ, leFr, ASt.at, keepFr, updAll, upd_zero, upd_succ, AV.rnb, AV.rnb0, mkL], by simp [-List.getD_eq_getElem?_getD, List.getD_cons_zero, List.getD_cons_succ, ASt.at, AO.rnb, AV.rnb0, upd_k0, upd_k1, upd_k2, upd_k3, mkL], rfl, rfl⟩
  rintro k hk
  simp only [ASt.at, keepFr, updAll, upd_zero, upd_succ, List.mem_cons, List.not_mem_nil, Nat.reduceEqDiff, Nat.reduceAdd, or_false, or_true, false_or, true_or, ↓reduceIte, eq_self]
  have hrl := mkL_len (opF n l) k
  have hcl : (k : Int) < 2 ^ n.toNat → (fnV n l = true ∧ (0 ≤ (k : Int) ∧ (k : Int) < 2 ^ n.toNat)) = True := fun hkn => eq_true (⟨hpre, by omega, hkn⟩)
  repeat' first | ((with_reducible show aol _ _ _ _ _); first | (refine aol_guard_f (by rfl) ?_ ?_; (focus (simp only [go_sem]; done))) | (refine aol_guard_un (by rfl) ?_ ?_; (focus (simp only [go_sem]; done)))) | ((with_reducible refine hK _ ?_); clear hK K; try simp only [nxA, nxB]) | (with_reducible refine awp_seq fun K hK => ?_) | ((first | ((with_reducible show aol _ _ _ _ _); try first | (refine aol_guard_t (by rfl) ?_ ?_; (focus (simp only [go_sem]; done))) | (refine aol_guard_b (by rfl) (by rfl) (fun h => ?_) (fun h => ?_) <;> (try simp only [hsA, hsB, hsC, hsD, hsE, List.all_cons, List.all_nil, ne_eq, reduceCtorEq] at h))) | ((with_reducible show Awp _ _ (Code.region _ _ _) _ _); first | refine awp_regK (by repeat constructor) (fun K hK => ?_) | (refine awp_drwK (by kernel_rfl) (by repeat constructor) (fun K hK => ?_)))) <;> simp (config := { maxSteps := 2000000 }) (disch := omega) only [go_sem, ↓reduceIte, Nat.reduceEqDiff, Nat.reduceAdd, Nat.reduceLT, Nat.reduceLeDiff, Nat.reduceSub, tOpC, hpre, hcl, tIsFn]) | ((with_reducible show Awp _ _ (Code.cond _ _ _) _ _); refine awp_cond rfl (fun h => ?_) (fun h => ?_) <;> (try simp only [hsA, hsB, hsC, hsD, hsE, List.all_cons, List.all_nil, ne_eq, reduceCtorEq] at h)) | ((with_reducible first | refine awp_skip ?_ | refine awp_ret ?_); simp only [nxA, nxB]) | (with_reducible refine awp_block ?_) | ((with_reducible refine awp_exit ?_); simp only [nxA, ne_eq, not_false_eq_true, Nat.reduceEqDiff, reduceCtorEq]; try ((first | refine hK _ ?_ | (clear hK K; first | refine hK _ ?_ | (clear hK K; first | refine hK _ ?_ | (clear hK K; refine hK _ ?_)))); clear hK K)) | (with_reducible first | apply And.intro | exact True.intro) | ((with_reducible first | show List.all _ _ = true | show lendOk _ _ = true); rfl) | omega | ((with_reducible first | show ¬ _ | show _ → _); intro h; first | contradiction | cases h; done | skip)
  all_goals (try (first | refine fin_keep ?_ | refine finm_keep ?_; repeat clear hK))
  · refine ⟨k + 1, by omega, by omega, ?_⟩
    rw [mkL_succ]
    exact ⟨[0, 1, 4], rfl, rfl, by simp [-List.getD_eq_getElem?_getD, -List.length_take, List.getD_cons_zero, List.getD_cons_succ, leFr, ASt.at, keepFr, updAll, upd_zero, upd_succ, AV.rnb, AV.rnb0], by simp [-List.getD_eq_getElem?_getD, List.getD_cons_zero, List.getD_cons_succ, ASt.at, AO.rnb, AV.rnb0, upd_k0, upd_k1, upd_k2, upd_k3], rfl, rfl⟩
  · obtain rfl : k = 2 ^ n.toNat := by omega
    rw [h]; exact fin_pairb_nl (d := tPair) rfl rfl rfl rfl rfl rfl
  · obtain rfl : k = 2 ^ n.toNat := by omega
    rw [h]; exact fin_pairb (d := tPair) rfl rfl rfl rfl rfl rfl rfl

def tOp : Tab
  | [.ag [.i n, .sl .i64 l]] => some (True, .tu [.ag [.i (or0 (fnV n l) n), .own 0], .b (fnV n l)], [.row .i64 3 (orE (fnV n l) (opL n l))])
  | _ => none
theorem implOp_ok : Fits Try.prog 168 tOp := by
  refine ⟨callable_of Try.func168 (by kernel_rfl) rfl, ?_⟩
  intro args p out Ho h hp
  unfold tOp at h
  split at h <;> cases h
  rename_i n l
  refine ⟨acall_by (env_ok (env := [(144, tIsFn), (116, tOpCF)]) (by simp only [List.forall_mem_cons, List.not_mem_nil, false_implies, implies_true, and_true]; exact ⟨implIsFn_ok, OpCF_ok⟩)) Try.func168 rfl rfl rfl rfl rfl ?_, rfl, rfl⟩
  intro hlen c hc hX
  simp only [lensOk, AV.lenOk, true_and, and_true] at hlen
  simp only [Try.ntmps168, Try.results168, List.length_cons, List.length_nil, List.replicate, List.cons_append, List.nil_append, Nat.reduceAdd, Nat.reduceSub]
  cases hg : fnV n l with
  | false =>
    repeat' first | ((with_reducible show aol _ _ _ _ _); first | (refine aol_guard_f (by rfl) ?_ ?_; (focus (simp only [go_sem]; done))) | (refine aol_guard_un (by rfl) ?_ ?_; (focus (simp only [go_sem]; done)))) | ((with_reducible refine hK _ ?_); clear hK K; try simp only [nxA, nxB]) | (with_reducible refine awp_seq fun K hK => ?_) | ((first | ((with_reducible show aol _ _ _ _ _); try first | (refine aol_guard_t (by rfl) ?_ ?_; (focus (simp only [go_sem]; done))) | (refine aol_guard_b (by rfl) (by rfl) (fun h => ?_) (fun h => ?_) <;> (try simp only [hsA, hsB, hsC, hsD, hsE, List.all_cons, List.all_nil, ne_eq, reduceCtorEq] at h))) | ((with_reducible show Awp _ _ (Code.region _ _ _) _ _); first | refine awp_regK (by repeat constructor) (fun K hK => ?_) | (refine awp_drwK (by kernel_rfl) (by repeat constructor) (fun K hK => ?_)))) <;> simp (config := { maxSteps := 2000000 }) (disch := omega) only [go_sem, ↓reduceIte, Nat.reduceEqDiff, Nat.reduceAdd, Nat.reduceLT, Nat.reduceLeDiff, Nat.reduceSub, tIsFn, hg]) | ((with_reducible show Awp _ _ (Code.cond _ _ _) _ _); refine awp_cond rfl (fun h => ?_) (fun h => ?_) <;> (try simp only [hsA, hsB, hsC, hsD, hsE, List.all_cons, List.all_nil, ne_eq, reduceCtorEq] at h)) | ((with_reducible first | refine awp_skip ?_ | refine awp_ret ?_); simp only [nxA, nxB]) | (with_reducible refine awp_block ?_) | ((with_reducible refine awp_exit ?_); simp only [nxA, ne_eq, not_false_eq_true, Nat.reduceEqDiff, reduceCtorEq]; try ((first | refine hK _ ?_ | (clear hK K; first | refine hK _ ?_ | (clear hK K; first | refine hK _ ?_ | (clear hK K; refine hK _ ?_)))); clear hK K)) | (with_reducible first | apply And.intro | exact True.intro) | ((with_reducible first | show List.all _ _ = true | show lendOk _ _ = true); rfl) | omega | ((with_reducible first | show ¬ _ | show _ → _); intro h; first | contradiction | cases h; done | skip)
    all_goals (try (first | refine fin_keep ?_ | refine finm_keep ?_; repeat clear hK))
    exact fin_pairb_nl (d := tPair) rfl rfl rfl rfl rfl rfl
  | true =>
    have hn := (fnV_iff.1 hg).1
    have hfn : fnV n (mkL (opF n l) (2 ^ n.toNat)) = true := op_fn hg
    repeat' first | ((with_reducible show aol _ _ _ _ _); first | (refine aol_guard_f (by rfl) ?_ ?_; (focus (simp only [go_sem]; done))) | (refine aol_guard_un (by rfl) ?_ ?_; (focus (simp only [go_sem]; done)))) | ((with_reducible refine hK _ ?_); clear hK K; try simp only [nxA, nxB]) | (with_reducible refine awp_seq fun K hK => ?_) | ((first | ((with_reducible show aol _ _ _ _ _); try first | (refine aol_guard_t (by rfl) ?_ ?_; (focus (simp only [go_sem]; done))) | (refine aol_guard_b (by rfl) (by rfl) (fun h => ?_) (fun h => ?_) <;> (try simp only [hsA, hsB, hsC, hsD, hsE, List.all_cons, List.all_nil, ne_eq, reduceCtorEq] at h))) | ((with_reducible show Awp _ _ (Code.region _ _ _) _ _); first | refine awp_regK (by repeat constructor) (fun K hK => ?_) | (refine awp_drwK (by kernel_rfl) (by repeat constructor) (fun K hK => ?_)))) <;> simp (config := { maxSteps := 2000000 }) (disch := omega) only [go_sem, ↓reduceIte, Nat.reduceEqDiff, Nat.reduceAdd, Nat.reduceLT, Nat.reduceLeDiff, Nat.reduceSub, tIsFn, hg, tOpCF, hfn, or0_t, orE_t]) | ((with_reducible show Awp _ _ (Code.cond _ _ _) _ _); refine awp_cond rfl (fun h => ?_) (fun h => ?_) <;> (try simp only [hsA, hsB, hsC, hsD, hsE, List.all_cons, List.all_nil, ne_eq, reduceCtorEq] at h)) | ((with_reducible first | refine awp_skip ?_ | refine awp_ret ?_); simp only [nxA, nxB]) | (with_reducible refine awp_block ?_) | ((with_reducible refine awp_exit ?_); simp only [nxA, ne_eq, not_false_eq_true, Nat.reduceEqDiff, reduceCtorEq]; try ((first | refine hK _ ?_ | (clear hK K; first | refine hK _ ?_ | (clear hK K; first | refine hK _ ?_ | (clear hK K; refine hK _ ?_)))); clear hK K)) | (with_reducible first | apply And.intro | exact True.intro) | ((with_reducible first | show List.all _ _ = true | show lendOk _ _ = true); rfl) | omega | ((with_reducible first | show ¬ _ | show _ → _); intro h; first | contradiction | cases h; done | skip)
    all_goals (try (first | refine fin_keep ?_ | refine finm_keep ?_; repeat clear hK))
    exact fin_pairb (d := tPair) rfl rfl rfl rfl rfl rfl rfl
def symV (n : Int) (l : List Int) : Bool := fnV n l && decide (l = opL n l)
def tSym : Tab
  | [.ag [.i n, .sl .i64 l]] => some (True, .b (symV n l), [])
  | _ => none
theorem implEqFn_ok : Fits Try.prog 169 tEqF := by
  refine ⟨callable_of Try.func169 (by kernel_rfl) rfl, ?_⟩
  intro args p out Ho h hp
  unfold tEqF at h
  split at h <;> cases h
  rename_i g l h m
  refine ⟨acall_by (env_ok (env := [(211, tEq)]) (by simp only [List.forall_mem_cons, List.not_mem_nil, false_implies, implies_true, and_true]; exact slicesEqual_ok)) Try.func169 rfl rfl rfl rfl rfl ?_, rfl, rfl⟩
  intro hlen c hc hX
  simp only [lensOk, AV.lenOk, true_and, and_true] at hlen
  simp only [Try.ntmps169, Try.results169, List.length_cons, List.length_nil, List.replicate, List.cons_append, List.nil_append, Nat.reduceAdd, Nat.reduceSub]
  repeat' first | ((with_reducible show aol _ _ _ _ _); first | (refine aol_guard_f (by rfl) ?_ ?_; (focus (simp only [go_sem]; done))) | (refine aol_guard_un (by rfl) ?_ ?_; (focus (simp only [go_sem]; done)))) | ((with_reducible refine hK _ ?_); clear hK K; try simp only [nxA, nxB]) | (with_reducible refine awp_seq fun K hK => ?_) | ((first | ((with_reducible show aol _ _ _ _ _); try first | (refine aol_guard_t (by rfl) ?_ ?_; (focus (simp only [go_sem]; done))) | (refine aol_guard_b (by rfl) (by rfl) (fun h => ?_) (fun h => ?_) <;> (try simp only [hsA, hsB, hsC, hsD, hsE, List.all_cons, List.all_nil, ne_eq, reduceCtorEq] at h))) | ((with_reducible show Awp _ _ (Code.region _ _ _) _ _); first | refine awp_regK (by repeat constructor) (fun K hK => ?_) | (refine awp_drwK (by kernel_rfl) (by repeat constructor) (fun K hK => ?_)))) <;> simp (config := { maxSteps := 2000000 }) (disch := omega) only [go_sem, ↓reduceIte, Nat.reduceEqDiff, Nat.reduceAdd, Nat.reduceLT, Nat.reduceLeDiff, Nat.reduceSub, tEq]) | ((with_reducible show Awp _ _ (Code.cond _ _ _) _ _); refine awp_cond rfl (fun h => ?_) (fun h => ?_) <;> (try simp only [hsA, hsB, hsC, hsD, hsE, List.all_cons, List.all_nil, ne_eq, reduceCtorEq] at h)) | ((with_reducible first | refine awp_skip ?_ | refine awp_ret ?_); simp only [nxA, nxB]) | (with_reducible refine awp_block ?_) | ((with_reducible refine awp_exit ?_); simp only [nxA, ne_eq, not_false_eq_true, Nat.reduceEqDiff, reduceCtorEq]; try ((first | refine hK _ ?_ | (clear hK K; first | refine hK _ ?_ | (clear hK K; first | refine hK _ ?_ | (clear hK K; refine hK _ ?_)))); clear hK K)) | (with_reducible first | apply And.intro | exact True.intro) | ((with_reducible first | show List.all _ _ = true | show lendOk _ _ = true); rfl) | omega | ((with_reducible first | show ¬ _ | show _ → _); intro h; first | contradiction | cases h; done | skip)
  all_goals (try (first | refine fin_keep ?_ | refine finm_keep ?_; repeat clear hK))
  all_goals (refine fin_tmp rfl ?_; simp only [nth_zero, nth_succ]; simp [*])
theorem implSym_ok : Fits Try.prog 64 tSym := by
  refine ⟨callable_of Try.func64 (by kernel_rfl) rfl, ?_⟩
  intro args p out Ho h hp
  unfold tSym at h
  split at h <;> cases h
  rename_i n l
  refine ⟨acall_by (env_ok (env := [(168, tOp), (169, tEqF)]) (by simp only [List.forall_mem_cons, List.not_mem_nil, false_implies, implies_true, and_true]; exact ⟨implOp_ok, implEqFn_ok⟩)) Try.func64 rfl rfl rfl rfl rfl ?_, rfl, rfl⟩
  intro hlen c hc hX
  simp only [lensOk, AV.lenOk, true_and, and_true] at hlen
  simp only [Try.ntmps64, Try.results64, List.length_cons, List.length_nil, List.replicate, List.cons_append, List.nil_append, Nat.reduceAdd, Nat.reduceSub]
  cases hg : fnV n l with
  | false =>
    have hok : symV n l = false := by rw [symV, hg, Bool.false_and]
    rw [hok]
    repeat' first | ((with_reducible show aol _ _ _ _ _); first | (refine aol_guard_f (by rfl) ?_ ?_; (focus (simp only [go_sem]; done))) | (refine aol_guard_un (by rfl) ?_ ?_; (focus (simp only [go_sem]; done)))) | ((with_reducible refine hK _ ?_); clear hK K; try simp only [nxA, nxB]) | (with_reducible refine awp_seq fun K hK => ?_) | ((first | ((with_reducible show aol _ _ _ _ _); try first | (refine aol_guard_t (by rfl) ?_ ?_; (focus (simp only [go_sem]; done))) | (refine aol_guard_b (by rfl) (by rfl) (fun h => ?_) (fun h => ?_) <;> (try simp only [hsA, hsB, hsC, hsD, hsE, List.all_cons, List.all_nil, ne_eq, reduceCtorEq] at h))) | ((with_reducible show Awp _ _ (Code.region _ _ _) _ _); first | refine awp_regK (by repeat constructor) (fun K hK => ?_) | (refine awp_drwK (by kernel_rfl) (by repeat constructor) (fun K hK => ?_)))) <;> simp (config := { maxSteps := 2000000 }) (disch := omega) only [go_sem, ↓reduceIte, Nat.reduceEqDiff, Nat.reduceAdd, Nat.reduceLT, Nat.reduceLeDiff, Nat.reduceSub, tOp, hg]) | ((with_reducible show Awp _ _ (Code.cond _ _ _) _ _); refine awp_cond rfl (fun h => ?_) (fun h => ?_) <;> (try simp only [hsA, hsB, hsC, hsD, hsE, List.all_cons, List.all_nil, ne_eq, reduceCtorEq] at h)) | ((with_reducible first | refine awp_skip ?_ | refine awp_ret ?_); simp only [nxA, nxB]) | (with_reducible refine awp_block ?_) | ((with_reducible refine awp_exit ?_); simp only [nxA, ne_eq, not_false_eq_true, Nat.reduceEqDiff, reduceCtorEq]; try ((first | refine hK _ ?_ | (clear hK K; first | refine hK _ ?_ | (clear hK K; first | refine hK _ ?_ | (clear hK K; refine hK _ ?_)))); clear hK K)) | (with_reducible first | apply And.intro | exact True.intro) | ((with_reducible first | show List.all _ _ = true | show lendOk _ _ = true); rfl) | omega | ((with_reducible first | show ¬ _ | show _ → _); intro h; first | contradiction | cases h; done | skip)
    all_goals (try (first | refine fin_keep ?_ | refine finm_keep ?_; repeat clear hK))
    refine fin_tmp rfl ?_; rfl
  | true =>
    have hok : symV n l = decide (l = opL n l) := by rw [symV, hg, Bool.true_and]
    rw [hok]
    repeat' first | ((with_reducible show aol _ _ _ _ _); first | (refine aol_guard_f (by rfl) ?_ ?_; (focus (simp only [go_sem]; done))) | (refine aol_guard_un (by rfl) ?_ ?_; (focus (simp only [go_sem]; done)))) | ((with_reducible refine hK _ ?_); clear hK K; try simp only [nxA, nxB]) | (with_reducible refine awp_seq fun K hK => ?_) | ((first | ((with_reducible show aol _ _ _ _ _); try first | (refine aol_guard_t (by rfl) ?_ ?_; (focus (simp only [go_sem]; done))) | (refine aol_guard_b (by rfl) (by rfl) (fun h => ?_) (fun h => ?_) <;> (try simp only [hsA, hsB, hsC, hsD, hsE, List.all_cons, List.all_nil, ne_eq, reduceCtorEq] at h))) | ((with_reducible show Awp _ _ (Code.region _ _ _) _ _); first | refine awp_regK (by repeat constructor) (fun K hK => ?_) | (refine awp_drwK (by kernel_rfl) (by repeat constructor) (fun K hK => ?_)))) <;> simp (config := { maxSteps := 2000000 }) (disch := omega) only [go_sem, ↓reduceIte, Nat.reduceEqDiff, Nat.reduceAdd, Nat.reduceLT, Nat.reduceLeDiff, Nat.reduceSub, tOp, hg, or0_t, orE_t, tEqF]) | ((with_reducible show Awp _ _ (Code.cond _ _ _) _ _); refine awp_cond rfl (fun h => ?_) (fun h => ?_) <;> (try simp only [hsA, hsB, hsC, hsD, hsE, List.all_cons, List.all_nil, ne_eq, reduceCtorEq] at h)) | ((with_reducible first | refine awp_skip ?_ | refine awp_ret ?_); simp only [nxA, nxB]) | (with_reducible refine awp_block ?_) | ((with_reducible refine awp_exit ?_); simp only [nxA, ne_eq, not_false_eq_true, Nat.reduceEqDiff, reduceCtorEq]; try ((first | refine hK _ ?_ | (clear hK K; first | refine hK _ ?_ | (clear hK K; first | refine hK _ ?_ | (clear hK K; refine hK _ ?_)))); clear hK K)) | (with_reducible first | apply And.intro | exact True.intro) | ((with_reducible first | show List.all _ _ = true | show lendOk _ _ = true); rfl) | omega | ((with_reducible first | show ¬ _ | show _ → _); intro h; first | contradiction | cases h; done | skip)
    all_goals (try (first | refine fin_keep ?_ | refine finm_keep ?_; repeat clear hK))
    refine fin_tmp rfl ?_; simp only [nth_zero, nth_succ]; simp
end Go.Proofs.Ytjlpjkiadohkiaa
