import Derived.Test.YtjlpjkiadohkiaaHs
import Derived.Test.YtjlpjkiadohkiaaT28
set_option linter.unusedSimpArgs false
set_option linter.unusedVariables false
set_option maxHeartbeats 2000000
namespace Go.Proofs.Ytjlpjkiadohkiaa
open Go Go.Ab
attribute [local irreducible] aol
attribute [local irreducible] popN


theorem rangeL_inc (p : Int → Bool) (n : Nat) : incB (rangeL p n) = true := inc_of_asc (rangeL_asc p n)
theorem rangeL_congr {p q : Int → Bool} {n : Nat} (h : ∀ k : Nat, k < n → p (k : Int) = q (k : Int)) : rangeL p n = rangeL q n := by
  unfold rangeL
  rw [List.filter_congr fun i hi => h i (List.mem_range.1 hi)]
theorem rangeL_has (p : Int → Bool) {n k : Nat} (h : k < n) : decide ((k : Int) ∈ rangeL p n) = p (k : Int) := by
  rw [Bool.eq_iff_iff, decide_eq_true_eq, mem_rangeL]
  exact ⟨fun h => h.2, fun h' => ⟨⟨by omega, by omega⟩, h'⟩⟩
theorem rangeL_sift (p q : Int → Bool) (n : Nat) : (rangeL p n).filter q = rangeL (fun s => p s && q s) n := by
  unfold rangeL
  rw [List.filter_map, List.filter_filter]
  refine congrArg _ (List.filter_congr fun i _ => ?_)
  show (q (i : Int) && p (i : Int)) = _
  rw [Bool.and_comm]
def cmL (n : Int) (l l' : List Int) : List Int := rangeL (fun s => bsP n l s && bsP n l' s) (2 ^ n.toNat)
theorem cmL_filter (n : Int) (l l' : List Int) : (bsL n l).filter (fun x => decide (x ∈ bsL n l')) = cmL n l l' := by
  unfold bsL cmL
  rw [rangeL_sift]
  exact rangeL_congr fun k hk => by rw [rangeL_has _ hk]
theorem sift_len (l : List Int) (q : Int → Bool) (k : Nat) : ((l.take k).filter q).length ≤ l.length :=
  Nat.le_trans (List.length_filter_le ..) (by rw [List.length_take]; exact Nat.min_le_right ..)
theorem take_step {l : List Int} {k : Nat} (hk : k < l.length) : l.take (k + 1) = l.take k ++ [l.getD k 0] := by
  rw [List.take_add_one, List.getD_eq_getElem?_getD, List.getElem?_eq_getElem hk]; rfl
theorem sift_yes {l : List Int} {q : Int → Bool} {k : Nat} (hk : k < l.length) (h : q (l.getD k 0) = true) : (l.take (k + 1)).filter q = (l.take k).filter q ++ [l.getD k 0] := by
  rw [take_step hk, List.filter_append, List.filter_cons_of_pos h, List.filter_nil]
theorem sift_no {l : List Int} {q : Int → Bool} {k : Nat} (hk : k < l.length) (h : q (l.getD k 0) = false) : (l.take (k + 1)).filter q = (l.take k).filter q := by
  rw [take_step hk, List.filter_append, List.filter_cons_of_neg (by rw [h]; exact Bool.false_ne_true), List.filter_nil, List.append_nil]
def cmP (l l' : List Int) (s : Int) : Bool := decide (s ∈ l) && decide (s ∈ l')
def tCmC : Tab
  | [.i s, .ref [.i _, .sl .i64 l], .ref [.i _, .sl .i64 l']] => some (incB l = true ∧ incB l' = true, .b (cmP l l' s), [])
  | _ => none
theorem cmL_two (n : Int) (l l' : List Int) : rangeL (cmP (bsL n l) (bsL n l')) (2 ^ n.toNat) = cmL n l l' :=
  rangeL_congr fun k hk => by unfold cmP bsL; rw [rangeL_has _ hk, rangeL_has _ hk]
theorem cmC_ok : Fits Try.prog 140 tCmC := by
  refine ⟨callable_of Try.func140 (by kernel_rfl) rfl, ?_⟩
  intro args p out Ho h hp
  unfold tCmC at h
  split at h <;> cases h
  rename_i s n l n' l'
  refine ⟨acall_by (env_ok (env := [(141, tHasSet)]) (by simp only [List.forall_mem_cons, List.not_mem_nil, false_implies, implies_true, and_true]; exact hasSet_ok)) Try.func140 rfl rfl rfl rfl rfl ?_, rfl, rfl⟩
  intro hlen c hc hX
  simp only [lensOk, AV.lenOk, true_and, and_true] at hlen
  simp only [Try.ntmps140, Try.results140, List.length_cons, List.length_nil, List.replicate, List.cons_append, List.nil_append, Nat.reduceAdd, Nat.reduceSub]
  obtain ⟨h1, h2⟩ := hp
  repeat' first | ((with_reducible show aol _ _ _ _ _); first | (refine aol_guard_f (by rfl) ?_ ?_; (focus (simp only [go_sem]; done))) | (refine aol_guard_un (by rfl) ?_ ?_; (focus (simp only [go_sem]; done)))) | ((with_reducible refine hK _ ?_); clear hK K; try simp only [nxA, nxB]) | (with_reducible refine awp_seq fun K hK => ?_) | ((first | ((with_reducible show aol _ _ _ _ _); try first | (refine aol_guard_t (by rfl) ?_ ?_; (focus (simp only [go_sem]; done))) | (refine aol_guard_b (by rfl) (by rfl) (fun h => ?_) (fun h => ?_) <;> (try simp only [hsA, hsB, hsC, hsD, hsE, List.all_cons, List.all_nil, ne_eq, reduceCtorEq] at h))) | ((with_reducible show Awp _ _ (Code.region _ _ _) _ _); first | refine awp_regK (by repeat constructor) (fun K hK => ?_) | (refine awp_drwK (by kernel_rfl) (by repeat constructor) (fun K hK => ?_)))) <;> simp (config := { maxSteps := 2000000 }) (disch := omega) only [go_sem, ↓reduceIte, Nat.reduceEqDiff, Nat.reduceAdd, Nat.reduceLT, Nat.reduceLeDiff, Nat.reduceSub, tHasSet, h1, h2]) | ((with_reducible show Awp _ _ (Code.cond _ _ _) _ _); refine awp_cond rfl (fun h => ?_) (fun h => ?_) <;> (try simp only [hsA, hsB, hsC, hsD, hsE, List.all_cons, List.all_nil, ne_eq, reduceCtorEq] at h)) | ((with_reducible first | refine awp_skip ?_ | refine awp_ret ?_); simp only [nxA, nxB]) | (with_reducible refine awp_block ?_) | ((with_reducible refine awp_exit ?_); simp only [nxA, ne_eq, not_false_eq_true, Nat.reduceEqDiff, reduceCtorEq]; try ((first | refine hK _ ?_ | (clear hK K; first | refine hK _ ?_ | (clear hK K; first | refine hK _ ?_ | (clear hK K; refine hK _ ?_)))); clear hK K)) | (with_reducible first | apply And.intro | exact True.intro) | ((with_reducible first | show List.all _ _ = true | show lendOk _ _ = true); rfl) | omega | ((with_reducible first | show ¬ _ | show _ → _); intro h; first | contradiction | cases h; done | skip)
  all_goals (try (first | refine fin_keep ?_ | refine finm_keep ?_; repeat clear hK))
  · refine fin_tmp rfl ?_; simp only [nth_zero, nth_succ, cmP]; simp [*]
  · refine fin_tmp rfl ?_; simp only [nth_zero, nth_succ, cmP]; simp [*]
def tCmCC : Tab
  | [.i n, .fn 140 [.ref [.i m, .sl .i64 l], .ref [.i m', .sl .i64 l']]] => some ((0 ≤ n ∧ n ≤ 6) ∧ (incB l = true ∧ incB l' = true), .ag [.i n, .own 0], [.row .i64 3 (rangeL (cmP l l') (2 ^ n.toNat))])
  | _ => none
theorem CmCC_ok : Fits Try.prog 139 tCmCC := by
  refine ⟨callable_of Try.func139 (by kernel_rfl) rfl, ?_⟩
  intro args p out Ho h hp
  unfold tCmCC at h
  split at h <;> cases h
  rename_i n m l m' l'
  refine ⟨acall_by (env_ok (env := [(140, tCmC)]) (by simp only [List.forall_mem_cons, List.not_mem_nil, false_implies, implies_true, and_true]; exact cmC_ok)) Try.func139 rfl rfl rfl rfl rfl ?_, rfl, rfl⟩
  intro hlen c hc hX
  simp only [lensOk, AV.lenOk, true_and, and_true] at hlen
  simp only [Try.ntmps139, Try.results139, List.length_cons, List.length_nil, List.replicate, List.cons_append, List.nil_append, Nat.reduceAdd, Nat.reduceSub]
  obtain ⟨hn, hpre⟩ := hp
  have hu := u64_id (n := n) (by omega) (by omega)
  have hsh := ishl_one (n := n) hn.1 (by omega)
  have hpw := pow_nat n.toNat
  have hp6 : 2 ^ n.toNat ≤ 64 := Nat.le_trans (Nat.pow_le_pow_right (by omega) (show n.toNat ≤ 6 by omega)) (by decide)
  repeat' first | ((with_reducible show aol _ _ _ _ _); first | (refine aol_guard_f (by rfl) ?_ ?_; (focus (simp only [go_sem]; done))) | (refine aol_guard_un (by rfl) ?_ ?_; (focus (simp only [go_sem]; done)))) | ((with_reducible refine hK _ ?_); clear hK K; try simp only [nxA, nxB]) | (with_reducible refine awp_seq fun K hK => ?_) | ((first | ((with_reducible show aol _ _ _ _ _); try first | (refine aol_guard_t (by rfl) ?_ ?_; (focus (simp only [go_sem]; done))) | (refine aol_guard_b (by rfl) (by rfl) (fun h => ?_) (fun h => ?_) <;> (try simp only [hsA, hsB, hsC, hsD, hsE, List.all_cons, List.all_nil, ne_eq, reduceCtorEq] at h))) | ((with_reducible show Awp _ _ (Code.region _ _ _) _ _); first | refine awp_regK (by repeat constructor) (fun K hK => ?_) | (refine awp_drwK (by kernel_rfl) (by repeat constructor) (fun K hK => ?_)))) <;> simp (config := { maxSteps := 2000000 }) (disch := omega) only [go_sem, ↓reduceIte, Nat.reduceEqDiff, Nat.reduceAdd, Nat.reduceLT, Nat.reduceLeDiff, Nat.reduceSub, tCmC, hu, hsh]) | ((with_reducible show Awp _ _ (Code.cond _ _ _) _ _); refine awp_cond rfl (fun h => ?_) (fun h => ?_) <;> (try simp only [hsA, hsB, hsC, hsD, hsE, List.all_cons, List.all_nil, ne_eq, reduceCtorEq] at h)) | ((with_reducible first | refine awp_skip ?_ | refine awp_ret ?_); simp only [nxA, nxB]) | (with_reducible refine awp_block ?_) | ((with_reducible refine awp_exit ?_); simp only [nxA, ne_eq, not_false_eq_true, Nat.reduceEqDiff, reduceCtorEq]; try ((first | refine hK _ ?_ | (clear hK K; first | refine hK _ ?_ | (clear hK K; first | refine hK _ ?_ | (clear hK K; refine hK _ ?_)))); clear hK K)) | (with_reducible first | apply And.intro | exact True.intro) | ((with_reducible first | show List.all _ _ = true | show lendOk _ _ = true); rfl) | omega | ((with_reducible first | show ¬ _ | show _ → _); intro h; first | contradiction | cases h; done | skip)
  all_goals (try (first | refine fin_keep ?_ | refine finm_keep ?_; repeat clear hK))
  refine awp_wk (wk_cell .i64 3 (b := 1) (j := 1) rfl rfl (by simp)) ?_
  refine awp_forR 0 hX (fun st (k : Nat) => st.at [1, 4, 5, 11] [(12, .i k)] [.box 45 [.i 0, .nl], .box 45 [.i n, .own 2], .row .i64 3 (rangeL (cmP l l') k)]) (fun k => k ≤ 2 ^ n.toNat) (fun k => 2 ^ n.toNat - k) 0 (Nat.zero_le _) ?_ ?_
  · exact ⟨[0, 1, 2], rfl, rfl, by simp [-List.getD_eq_getElem?_getD, -List.length_take, List.getD_cons_zero, List.getD_cons_succ, leFr, ASt.at, keepFr, updAll, upd_zero, upd_succ, AV.rnb, AV.rnb0, rangeL], by simp [-List.getD_eq_getElem?_getD, List.getD_cons_zero, List.getD_cons_succ, ASt.at, AO.rnb, AV.rnb0, upd_k0, upd_k1, upd_k2, upd_k3, rangeL], rfl, rfl⟩
  rintro k hk
  simp only [ASt.at, keepFr, updAll, upd_zero, upd_succ, List.mem_cons, List.not_mem_nil, Nat.reduceEqDiff, Nat.reduceAdd, or_false, or_true, false_or, true_or, ↓reduceIte, eq_self]
  have hrl := rangeL_len (cmP l l') k
  repeat' first | ((with_reducible show aol _ _ _ _ _); first | (refine aol_guard_f (by rfl) ?_ ?_; (focus (simp only [go_sem]; done))) | (refine aol_guard_un (by rfl) ?_ ?_; (focus (simp only [go_sem]; done)))) | ((with_reducible refine hK _ ?_); clear hK K; try simp only [nxA, nxB]) | (with_reducible refine awp_seq fun K hK => ?_) | ((first | ((with_reducible show aol _ _ _ _ _); try first | (refine aol_guard_t (by rfl) ?_ ?_; (focus (simp only [go_sem]; done))) | (refine aol_guard_b (by rfl) (by rfl) (fun h => ?_) (fun h => ?_) <;> (try simp only [hsA, hsB, hsC, hsD, hsE, List.all_cons, List.all_nil, ne_eq, reduceCtorEq] at h))) | ((with_reducible show Awp _ _ (Code.region _ _ _) _ _); first | refine awp_regK (by repeat constructor) (fun K hK => ?_) | (refine awp_drwK (by kernel_rfl) (by repeat constructor) (fun K hK => ?_)))) <;> simp (config := { maxSteps := 2000000 }) (disch := omega) only [go_sem, ↓reduceIte, Nat.reduceEqDiff, Nat.reduceAdd, Nat.reduceLT, Nat.reduceLeDiff, Nat.reduceSub, tCmC, hpre]) | ((with_reducible show Awp _ _ (Code.cond _ _ _) _ _); refine awp_cond rfl (fun h => ?_) (fun h => ?_) <;> (try simp only [hsA, hsB, hsC, hsD, hsE, List.all_cons, List.all_nil, ne_eq, reduceCtorEq] at h)) | ((with_reducible first | refine awp_skip ?_ | refine awp_ret ?_); simp only [nxA, nxB]) | (with_reducible refine awp_block ?_) | ((with_reducible refine awp_exit ?_); simp only [nxA, ne_eq, not_false_eq_true, Nat.reduceEqDiff, reduceCtorEq]; try ((first | refine hK _ ?_ | (clear hK K; first | refine hK _ ?_ | (clear hK K; first | refine hK _ ?_ | (clear hK K; refine hK _ ?_)))); clear hK K)) | (with_reducible first | apply And.intro | exact True.intro) | ((with_reducible first | show List.all _ _ = true | show lendOk _ _ = true); rfl) | omega | ((with_reducible first | show ¬ _ | show _ → _); intro h; first | contradiction | cases h; done | skip)
  all_goals (try (first | refine fin_keep ?_ | refine finm_keep ?_; repeat clear hK))
  · refine ⟨k + 1, by omega, by omega, ?_⟩
    rw [rangeL_yes (by simpa using h)]
    exact ⟨[0, 1, 4], rfl, rfl, by simp [-List.getD_eq_getElem?_getD, -List.length_take, List.getD_cons_zero, List.getD_cons_succ, leFr, ASt.at, keepFr, updAll, upd_zero, upd_succ, AV.rnb, AV.rnb0], by simp [-List.getD_eq_getElem?_getD, List.getD_cons_zero, List.getD_cons_succ, ASt.at, AO.rnb, AV.rnb0, upd_k0, upd_k1, upd_k2, upd_k3], rfl, rfl⟩
  · refine ⟨k + 1, by omega, by omega, ?_⟩
    rw [rangeL_no (by simpa using h)]
    exact ⟨[0, 1, 2], rfl, rfl, by simp [-List.getD_eq_getElem?_getD, -List.length_take, List.getD_cons_zero, List.getD_cons_succ, leFr, ASt.at, keepFr, updAll, upd_zero, upd_succ, AV.rnb, AV.rnb0], by simp [-List.getD_eq_getElem?_getD, List.getD_cons_zero, List.getD_cons_succ, ASt.at, AO.rnb, AV.rnb0, upd_k0, upd_k1, upd_k2, upd_k3], rfl, rfl⟩
  · obtain rfl : k = 2 ^ n.toNat := by omega
    exact fin_pair (d := tPair) (j := 2) rfl rfl rfl rfl rfl rfl

def tCm : Tab
  | [.ag [.i n, .sl .i64 l], .ag [.i n', .sl .i64 l']] => some (True, .tu [.ag [.i (or0 (areV n l n' l') n), .own 0], .b (areV n l n' l')], [.row .i64 3 (orE (areV n l n' l') (cmL n l l'))])
  | _ => none
theorem implCm_ok : Fits Try.prog 31 tCm := by
  refine ⟨callable_of Try.func31 (by kernel_rfl) rfl, ?_⟩
  intro args p out Ho h hp
  unfold tCm at h
  split at h <;> cases h
  rename_i n l n' l'
  refine ⟨acall_by (env_ok (env := [(115, tAre), (138, tBss), (139, tCmCC)]) (by simp only [List.forall_mem_cons, List.not_mem_nil, false_implies, implies_true, and_true]; exact ⟨are_ok, implBss_ok, CmCC_ok⟩)) Try.func31 rfl rfl rfl rfl rfl ?_, rfl, rfl⟩
  intro hlen c hc hX
  simp only [lensOk, AV.lenOk, true_and, and_true] at hlen
  simp only [Try.ntmps31, Try.results31, List.length_cons, List.length_nil, List.replicate, List.cons_append, List.nil_append, Nat.reduceAdd, Nat.reduceSub]
  cases hg : areV n l n' l' with
  | false =>
    repeat' first | ((with_reducible show aol _ _ _ _ _); first | (refine aol_guard_f (by rfl) ?_ ?_; (focus (simp only [go_sem]; done))) | (refine aol_guard_un (by rfl) ?_ ?_; (focus (simp only [go_sem]; done)))) | ((with_reducible refine hK _ ?_); clear hK K; try simp only [nxA, nxB]) | (with_reducible refine awp_seq fun K hK => ?_) | ((first | ((with_reducible show aol _ _ _ _ _); try first | (refine aol_guard_t (by rfl) ?_ ?_; (focus (simp only [go_sem]; done))) | (refine aol_guard_b (by rfl) (by rfl) (fun h => ?_) (fun h => ?_) <;> (try simp only [hsA, hsB, hsC, hsD, hsE, List.all_cons, List.all_nil, ne_eq, reduceCtorEq] at h))) | ((with_reducible show Awp _ _ (Code.region _ _ _) _ _); first | refine awp_regK (by repeat constructor) (fun K hK => ?_) | (refine awp_drwK (by kernel_rfl) (by repeat constructor) (fun K hK => ?_)))) <;> simp (config := { maxSteps := 2000000 }) (disch := omega) only [go_sem, ↓reduceIte, Nat.reduceEqDiff, Nat.reduceAdd, Nat.reduceLT, Nat.reduceLeDiff, Nat.reduceSub, tAre, hg]) | ((with_reducible show Awp _ _ (Code.cond _ _ _) _ _); refine awp_cond rfl (fun h => ?_) (fun h => ?_) <;> (try simp only [hsA, hsB, hsC, hsD, hsE, List.all_cons, List.all_nil, ne_eq, reduceCtorEq] at h)) | ((with_reducible first | refine awp_skip ?_ | refine awp_ret ?_); simp only [nxA, nxB]) | (with_reducible refine awp_block ?_) | ((with_reducible refine awp_exit ?_); simp only [nxA, ne_eq, not_false_eq_true, Nat.reduceEqDiff, reduceCtorEq]; try ((first | refine hK _ ?_ | (clear hK K; first | refine hK _ ?_ | (clear hK K; first | refine hK _ ?_ | (clear hK K; refine hK _ ?_)))); clear hK K)) | (with_reducible first | apply And.intro | exact True.intro) | ((with_reducible first | show List.all _ _ = true | show lendOk _ _ = true); rfl) | omega | ((with_reducible first | show ¬ _ | show _ → _); intro h; first | contradiction | cases h; done | skip)
    all_goals (try (first | refine fin_keep ?_ | refine finm_keep ?_; repeat clear hK))
    exact fin_pairb_nl (d := tPair) rfl rfl rfl rfl rfl rfl
  | true =>
    obtain ⟨hm, hm', rfl⟩ := are_iff.1 hg
    have hn := (fnV_iff.1 (mat_fn hm)).1
    have h1 : incB (bsL n l) = true := rangeL_inc _ _
    have h2 : incB (bsL n l') = true := rangeL_inc _ _
    have ht := cmL_two n l l'
    have ho := orE_t (bsL n l)
    have ho' := orE_t (bsL n l')
    repeat' first | ((with_reducible show aol _ _ _ _ _); first | (refine aol_guard_f (by rfl) ?_ ?_; (focus (simp only [go_sem]; done))) | (refine aol_guard_un (by rfl) ?_ ?_; (focus (simp only [go_sem]; done)))) | ((with_reducible refine hK _ ?_); clear hK K; try simp only [nxA, nxB]) | (with_reducible refine awp_seq fun K hK => ?_) | ((first | ((with_reducible show aol _ _ _ _ _); try first | (refine aol_guard_t (by rfl) ?_ ?_; (focus (simp only [go_sem]; done))) | (refine aol_guard_b (by rfl) (by rfl) (fun h => ?_) (fun h => ?_) <;> (try simp only [hsA, hsB, hsC, hsD, hsE, List.all_cons, List.all_nil, ne_eq, reduceCtorEq] at h))) | ((with_reducible show Awp _ _ (Code.region _ _ _) _ _); first | refine awp_regK (by repeat constructor) (fun K hK => ?_) | (refine awp_drwK (by kernel_rfl) (by repeat constructor) (fun K hK => ?_)))) <;> simp (config := { maxSteps := 2000000 }) (disch := omega) only [go_sem, ↓reduceIte, Nat.reduceEqDiff, Nat.reduceAdd, Nat.reduceLT, Nat.reduceLeDiff, Nat.reduceSub, tAre, hg, tBss, hm, hm', tCmCC, h1, h2, ho, ho', ht]) | ((with_reducible show Awp _ _ (Code.cond _ _ _) _ _); refine awp_cond rfl (fun h => ?_) (fun h => ?_) <;> (try simp only [hsA, hsB, hsC, hsD, hsE, List.all_cons, List.all_nil, ne_eq, reduceCtorEq] at h)) | ((with_reducible first | refine awp_skip ?_ | refine awp_ret ?_); simp only [nxA, nxB]) | (with_reducible refine awp_block ?_) | ((with_reducible refine awp_exit ?_); simp only [nxA, ne_eq, not_false_eq_true, Nat.reduceEqDiff, reduceCtorEq]; try ((first | refine hK _ ?_ | (clear hK K; first | refine hK _ ?_ | (clear hK K; first | refine hK _ ?_ | (clear hK K; refine hK _ ?_)))); clear hK K)) | (with_reducible first | apply And.intro | exact True.intro) | ((with_reducible first | show List.all _ _ = true | show lendOk _ _ = true); rfl) | omega | ((with_reducible first | show ¬ _ | show _ → _); intro h; first | contradiction | cases h; done | skip)
    all_goals (try (first | refine fin_keep ?_ | refine finm_keep ?_; repeat clear hK))
    exact fin_pairb (d := tPair) rfl rfl rfl rfl rfl rfl rfl
theorem specCm_ok : Fits Try.prog 32 tCm := by
  refine ⟨callable_of Try.func32 (by kernel_rfl) rfl, ?_⟩
  intro args p out Ho h hp
  unfold tCm at h
  split at h <;> cases h
  rename_i n l n' l'
  refine ⟨acall_by (env_ok (env := [(142, tBss), (143, tHas)]) (by simp only [List.forall_mem_cons, List.not_mem_nil, false_implies, implies_true, and_true]; exact ⟨specBss_ok, specHas_ok⟩)) Try.func32 rfl rfl rfl rfl rfl ?_, rfl, rfl⟩
  intro hlen c hc hX
  simp only [lensOk, AV.lenOk, true_and, and_true] at hlen
  simp only [Try.ntmps32, Try.results32, List.length_cons, List.length_nil, List.replicate, List.cons_append, List.nil_append, Nat.reduceAdd, Nat.reduceSub]
  cases hg : areV n l n' l' with
  | false =>
    cases hm : matV n l with
    | false =>
      repeat' first | ((with_reducible show aol _ _ _ _ _); first | (refine aol_guard_f (by rfl) ?_ ?_; (focus (simp only [go_sem]; done))) | (refine aol_guard_un (by rfl) ?_ ?_; (focus (simp only [go_sem]; done)))) | ((with_reducible refine hK _ ?_); clear hK K; try simp only [nxA, nxB]) | (with_reducible refine awp_seq fun K hK => ?_) | ((first | ((with_reducible show aol _ _ _ _ _); try first | (refine aol_guard_t (by rfl) ?_ ?_; (focus (simp only [go_sem]; done))) | (refine aol_guard_b (by rfl) (by rfl) (fun h => ?_) (fun h => ?_) <;> (try simp only [hsA, hsB, hsC, hsD, hsE, List.all_cons, List.all_nil, ne_eq, reduceCtorEq] at h))) | ((with_reducible show Awp _ _ (Code.region _ _ _) _ _); first | refine awp_regK (by repeat constructor) (fun K hK => ?_) | (refine awp_drwK (by kernel_rfl) (by repeat constructor) (fun K hK => ?_)))) <;> simp (config := { maxSteps := 2000000 }) (disch := omega) only [go_sem, ↓reduceIte, Nat.reduceEqDiff, Nat.reduceAdd, Nat.reduceLT, Nat.reduceLeDiff, Nat.reduceSub, tBss, hm]) | ((with_reducible show Awp _ _ (Code.cond _ _ _) _ _); refine awp_cond rfl (fun h => ?_) (fun h => ?_) <;> (try simp only [hsA, hsB, hsC, hsD, hsE, List.all_cons, List.all_nil, ne_eq, reduceCtorEq] at h)) | ((with_reducible first | refine awp_skip ?_ | refine awp_ret ?_); simp only [nxA, nxB]) | (with_reducible refine awp_block ?_) | ((with_reducible refine awp_exit ?_); simp only [nxA, ne_eq, not_false_eq_true, Nat.reduceEqDiff, reduceCtorEq]; try ((first | refine hK _ ?_ | (clear hK K; first | refine hK _ ?_ | (clear hK K; first | refine hK _ ?_ | (clear hK K; refine hK _ ?_)))); clear hK K)) | (with_reducible first | apply And.intro | exact True.intro) | ((with_reducible first | show List.all _ _ = true | show lendOk _ _ = true); rfl) | omega | ((with_reducible first | show ¬ _ | show _ → _); intro h; first | contradiction | cases h; done | skip)
      all_goals (try (first | refine fin_keep ?_ | refine finm_keep ?_; repeat clear hK))
      all_goals exact fin_pairb_nl (d := tPair) rfl rfl rfl rfl rfl rfl
    | true =>
      cases hm' : matV n' l' with
      | false =>
        repeat' first | ((with_reducible show aol _ _ _ _ _); first | (refine aol_guard_f (by rfl) ?_ ?_; (focus (simp only [go_sem]; done))) | (refine aol_guard_un (by rfl) ?_ ?_; (focus (simp only [go_sem]; done)))) | ((with_reducible refine hK _ ?_); clear hK K; try simp only [nxA, nxB]) | (with_reducible refine awp_seq fun K hK => ?_) | ((first | ((with_reducible show aol _ _ _ _ _); try first | (refine aol_guard_t (by rfl) ?_ ?_; (focus (simp only [go_sem]; done))) | (refine aol_guard_b (by rfl) (by rfl) (fun h => ?_) (fun h => ?_) <;> (try simp only [hsA, hsB, hsC, hsD, hsE, List.all_cons, List.all_nil, ne_eq, reduceCtorEq] at h))) | ((with_reducible show Awp _ _ (Code.region _ _ _) _ _); first | refine awp_regK (by repeat constructor) (fun K hK => ?_) | (refine awp_drwK (by kernel_rfl) (by repeat constructor) (fun K hK => ?_)))) <;> simp (config := { maxSteps := 2000000 }) (disch := omega) only [go_sem, ↓reduceIte, Nat.reduceEqDiff, Nat.reduceAdd, Nat.reduceLT, Nat.reduceLeDiff, Nat.reduceSub, tBss, hm, hm']) | ((with_reducible show Awp _ _ (Code.cond _ _ _) _ _); refine awp_cond rfl (fun h => ?_) (fun h => ?_) <;> (try simp only [hsA, hsB, hsC, hsD, hsE, List.all_cons, List.all_nil, ne_eq, reduceCtorEq] at h)) | ((with_reducible first | refine awp_skip ?_ | refine awp_ret ?_); simp only [nxA, nxB]) | (with_reducible refine awp_block ?_) | ((with_reducible refine awp_exit ?_); simp only [nxA, ne_eq, not_false_eq_true, Nat.reduceEqDiff, reduceCtorEq]; try ((first | refine hK _ ?_ | (clear hK K; first | refine hK _ ?_ | (clear hK K; first | refine hK _ ?_ | (clear hK K; refine hK _ ?_)))); clear hK K)) | (with_reducible first | apply And.intro | exact True.intro) | ((with_reducible first | show List.all _ _ = true | show lendOk _ _ = true); rfl) | omega | ((with_reducible first | show ¬ _ | show _ → _); intro h; first | contradiction | cases h; done | skip)
        all_goals (try (first | refine fin_keep ?_ | refine finm_keep ?_; repeat clear hK))
        all_goals exact fin_pairb_nl (d := tPair) rfl rfl rfl rfl rfl rfl
      | true =>
        have hne : n ≠ n' := fun e => by
          rw [areV, hm, hm', decide_eq_true e] at hg; cases hg
        have hne' := decide_eq_false hne
        repeat' first | ((with_reducible show aol _ _ _ _ _); first | (refine aol_guard_f (by rfl) ?_ ?_; (focus (simp only [go_sem]; done))) | (refine aol_guard_un (by rfl) ?_ ?_; (focus (simp only [go_sem]; done)))) | ((with_reducible refine hK _ ?_); clear hK K; try simp only [nxA, nxB]) | (with_reducible refine awp_seq fun K hK => ?_) | ((first | ((with_reducible show aol _ _ _ _ _); try first | (refine aol_guard_t (by rfl) ?_ ?_; (focus (simp only [go_sem]; done))) | (refine aol_guard_b (by rfl) (by rfl) (fun h => ?_) (fun h => ?_) <;> (try simp only [hsA, hsB, hsC, hsD, hsE, List.all_cons, List.all_nil, ne_eq, reduceCtorEq] at h))) | ((with_reducible show Awp _ _ (Code.region _ _ _) _ _); first | refine awp_regK (by repeat constructor) (fun K hK => ?_) | (refine awp_drwK (by kernel_rfl) (by repeat constructor) (fun K hK => ?_)))) <;> simp (config := { maxSteps := 2000000 }) (disch := omega) only [go_sem, ↓reduceIte, Nat.reduceEqDiff, Nat.reduceAdd, Nat.reduceLT, Nat.reduceLeDiff, Nat.reduceSub, tBss, hm, hm', hne, hne']) | ((with_reducible show Awp _ _ (Code.cond _ _ _) _ _); refine awp_cond rfl (fun h => ?_) (fun h => ?_) <;> (try simp only [hsA, hsB, hsC, hsD, hsE, List.all_cons, List.all_nil, ne_eq, reduceCtorEq] at h)) | ((with_reducible first | refine awp_skip ?_ | refine awp_ret ?_); simp only [nxA, nxB]) | (with_reducible refine awp_block ?_) | ((with_reducible refine awp_exit ?_); simp only [nxA, ne_eq, not_false_eq_true, Nat.reduceEqDiff, reduceCtorEq]; try ((first | refine hK _ ?_ | (clear hK K; first | refine hK _ ?_ | (clear hK K; first | refine hK _ ?_ | (clear hK K; refine hK _ ?_)))); clear hK K)) | (with_reducible first | apply And.intro | exact True.intro) | ((with_reducible first | show List.all _ _ = true | show lendOk _ _ = true); rfl) | omega | ((with_reducible first | show ¬ _ | show _ → _); intro h; first | contradiction | cases h; done | skip)
        all_goals (try (first | refine fin_keep ?_ | refine finm_keep ?_; repeat clear hK))
        all_goals exact fin_pairb_nl (d := tPair) rfl rfl rfl rfl rfl rfl
  | true =>
    obtain ⟨hm, hm', rfl⟩ := are_iff.1 hg
    have ho := orE_t (bsL n l)
    have ho' := orE_t (bsL n l')
    have hf := fnV_iff.1 (mat_fn hm)
    have hbl : (bsL n l).length ≤ 32 := Nat.le_trans (rangeL_len ..) (Nat.le_trans (Nat.pow_le_pow_right (by omega) (show n.toNat ≤ 5 by omega)) (by decide))
    repeat' first | ((with_reducible show aol _ _ _ _ _); first | (refine aol_guard_f (by rfl) ?_ ?_; (focus (simp only [go_sem]; done))) | (refine aol_guard_un (by rfl) ?_ ?_; (focus (simp only [go_sem]; done)))) | ((with_reducible refine hK _ ?_); clear hK K; try simp only [nxA, nxB]) | (with_reducible refine awp_seq fun K hK => ?_) | ((first | ((with_reducible show aol _ _ _ _ _); try first | (refine aol_guard_t (by rfl) ?_ ?_; (focus (simp only [go_sem]; done))) | (refine aol_guard_b (by rfl) (by rfl) (fun h => ?_) (fun h => ?_) <;> (try simp only [hsA, hsB, hsC, hsD, hsE, List.all_cons, List.all_nil, ne_eq, reduceCtorEq] at h))) | ((with_reducible show Awp _ _ (Code.region _ _ _) _ _); first | refine awp_regK (by repeat constructor) (fun K hK => ?_) | (refine awp_drwK (by kernel_rfl) (by repeat constructor) (fun K hK => ?_)))) <;> simp (config := { maxSteps := 2000000 }) (disch := omega) only [go_sem, ↓reduceIte, Nat.reduceEqDiff, Nat.reduceAdd, Nat.reduceLT, Nat.reduceLeDiff, Nat.reduceSub, tBss, hm, hm', ho, ho']) | ((with_reducible show Awp _ _ (Code.cond _ _ _) _ _); refine awp_cond rfl (fun h => ?_) (fun h => ?_) <;> (try simp only [hsA, hsB, hsC, hsD, hsE, List.all_cons, List.all_nil, ne_eq, reduceCtorEq] at h)) | ((with_reducible first | refine awp_skip ?_ | refine awp_ret ?_); simp only [nxA, nxB]) | (with_reducible refine awp_block ?_) | ((with_reducible refine awp_exit ?_); simp only [nxA, ne_eq, not_false_eq_true, Nat.reduceEqDiff, reduceCtorEq]; try ((first | refine hK _ ?_ | (clear hK K; first | refine hK _ ?_ | (clear hK K; first | refine hK _ ?_ | (clear hK K; refine hK _ ?_)))); clear hK K)) | (with_reducible first | apply And.intro | exact True.intro) | ((with_reducible first | show List.all _ _ = true | show lendOk _ _ = true); rfl) | omega | ((with_reducible first | show ¬ _ | show _ → _); intro h; first | contradiction | cases h; done | skip)
    all_goals (try (first | refine fin_keep ?_ | refine finm_keep ?_; repeat clear hK))
    refine awp_forR 0 hX (fun st (k : Nat) => st.at [2, 4, 6, 8] [(10, .own 7), (11, .i k)] [.box 26 [.i n, .sl .i64 l], .box 26 [.i n, .sl .i64 l'], .box 45 [.i 0, .nl], .row .i64 3 (bsL n l), .box 45 [.i n, .own 3], .row .i64 3 (bsL n l'), .box 45 [.i n, .own 5], .row .i64 3 (((bsL n l).take k).filter fun x => decide (x ∈ bsL n l'))]) (fun k => k ≤ (bsL n l).length) (fun k => (bsL n l).length - k) 0 (Nat.zero_le _) ?_ ?_
    · exact ⟨[0, 1, 2, 3, 4, 5, 6, 7], rfl, rfl, by simp [-List.getD_eq_getElem?_getD, -List.length_take, List.getD_cons_zero, List.getD_cons_succ, leFr, ASt.at, keepFr, updAll, upd_zero, upd_succ, AV.rnb, AV.rnb0, List.take_zero, List.filter_nil, or0_t], by simp [-List.getD_eq_getElem?_getD, List.getD_cons_zero, List.getD_cons_succ, ASt.at, AO.rnb, AV.rnb0, upd_k0, upd_k1, upd_k2, upd_k3, List.take_zero, List.filter_nil, or0_t], rfl, rfl⟩
    rintro k hk
    simp only [ASt.at, keepFr, updAll, upd_zero, upd_succ, List.mem_cons, List.not_mem_nil, Nat.reduceEqDiff, Nat.reduceAdd, or_false, or_true, false_or, true_or, ↓reduceIte, eq_self]
    have hrl := sift_len (bsL n l) (fun x => decide (x ∈ bsL n l')) k
    repeat' first | ((with_reducible show aol _ _ _ _ _); first | (refine aol_guard_f (by rfl) ?_ ?_; (focus (simp only [go_sem]; done))) | (refine aol_guard_un (by rfl) ?_ ?_; (focus (simp only [go_sem]; done)))) | ((with_reducible refine hK _ ?_); clear hK K; try simp only [nxA, nxB]) | (with_reducible refine awp_seq fun K hK => ?_) | ((first | ((with_reducible show aol _ _ _ _ _); try first | (refine aol_guard_t (by rfl) ?_ ?_; (focus (simp only [go_sem]; done))) | (refine aol_guard_b (by rfl) (by rfl) (fun h => ?_) (fun h => ?_) <;> (try simp only [hsA, hsB, hsC, hsD, hsE, List.all_cons, List.all_nil, ne_eq, reduceCtorEq] at h))) | ((with_reducible show Awp _ _ (Code.region _ _ _) _ _); first | refine awp_regK (by repeat constructor) (fun K hK => ?_) | (refine awp_drwK (by kernel_rfl) (by repeat constructor) (fun K hK => ?_)))) <;> simp (config := { maxSteps := 2000000 }) (disch := omega) only [go_sem, ↓reduceIte, Nat.reduceEqDiff, Nat.reduceAdd, Nat.reduceLT, Nat.reduceLeDiff, Nat.reduceSub, tHas]) | ((with_reducible show Awp _ _ (Code.cond _ _ _) _ _); refine awp_cond rfl (fun h => ?_) (fun h => ?_) <;> (try simp only [hsA, hsB, hsC, hsD, hsE, List.all_cons, List.all_nil, ne_eq, reduceCtorEq] at h)) | ((with_reducible first | refine awp_skip ?_ | refine awp_ret ?_); simp only [nxA, nxB]) | (with_reducible refine awp_block ?_) | ((with_reducible refine awp_exit ?_); simp only [nxA, ne_eq, not_false_eq_true, Nat.reduceEqDiff, reduceCtorEq]; try ((first | refine hK _ ?_ | (clear hK K; first | refine hK _ ?_ | (clear hK K; first | refine hK _ ?_ | (clear hK K; refine hK _ ?_)))); clear hK K)) | (with_reducible first | apply And.intro | exact True.intro) | ((with_reducible first | show List.all _ _ = true | show lendOk _ _ = true); rfl) | omega | ((with_reducible first | show ¬ _ | show _ → _); intro h; first | contradiction | cases h; done | skip)
    all_goals (try (first | refine fin_keep ?_ | refine finm_keep ?_; repeat clear hK))
    · refine ⟨k + 1, by omega, by omega, ?_⟩
      rw [sift_yes (by omega) (by simpa using h)]
      exact ⟨[0, 1, 2, 3, 4, 5, 6, 9], rfl, rfl, by simp [-List.getD_eq_getElem?_getD, -List.length_take, List.getD_cons_zero, List.getD_cons_succ, leFr, ASt.at, keepFr, updAll, upd_zero, upd_succ, AV.rnb, AV.rnb0, or0_t], by simp [-List.getD_eq_getElem?_getD, List.getD_cons_zero, List.getD_cons_succ, ASt.at, AO.rnb, AV.rnb0, upd_k0, upd_k1, upd_k2, upd_k3, or0_t], rfl, rfl⟩
    · refine ⟨k + 1, by omega, by omega, ?_⟩
      rw [sift_no (by omega) (by simpa using h)]
      exact ⟨[0, 1, 2, 3, 4, 5, 6, 7], rfl, rfl, by simp [-List.getD_eq_getElem?_getD, -List.length_take, List.getD_cons_zero, List.getD_cons_succ, leFr, ASt.at, keepFr, updAll, upd_zero, upd_succ, AV.rnb, AV.rnb0, or0_t], by simp [-List.getD_eq_getElem?_getD, List.getD_cons_zero, List.getD_cons_succ, ASt.at, AO.rnb, AV.rnb0, upd_k0, upd_k1, upd_k2, upd_k3, or0_t], rfl, rfl⟩
    · obtain rfl : k = (bsL n l).length := by omega
      rw [List.take_length, cmL_filter]
      exact fin_pairb (d := tPair) rfl rfl rfl rfl rfl rfl rfl
end Go.Proofs.Ytjlpjkiadohkiaa
