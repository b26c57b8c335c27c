import Derived.Test.YtjlpjkiadohkiaaT13
import Derived.Test.YtjlpjkiadohkiaaHs
import Derived.Test.YtjlpjkiadohkiaaT26
set_option linter.unusedSimpArgs false
set_option linter.unusedVariables false
set_option maxHeartbeats 2000000
namespace Go.Proofs.Ytjlpjkiadohkiaa
open Go Go.Ab
attribute [local irreducible] aol
attribute [local irreducible] popN


def mkL (f : Int → Int) (m : Nat) : List Int := (List.range m).map fun (i : Nat) => f (i : Int)
theorem mkL_succ {f : Int → Int} {m : Nat} : mkL f (m + 1) = mkL f m ++ [f (m : Int)] := by unfold mkL; rw [List.range_succ, List.map_append]; rfl
theorem mkL_len (f : Int → Int) (m : Nat) : (mkL f m).length = m := by simp [mkL]
theorem mk_fn {n : Int} {f : Int → Int} (hn : 0 ≤ n ∧ n ≤ 5) (h : ∀ k : Nat, k < 2 ^ n.toNat → -1000 ≤ f (k : Int) ∧ f (k : Int) ≤ 1000) : fnV n (mkL f (2 ^ n.toNat)) = true := by
  rw [fnV_iff]
  refine ⟨hn, by rw [mkL_len]; simp, ?_⟩
  rw [List.all_eq_true]
  intro x hx
  unfold mkL at hx
  simp only [List.mem_map, List.mem_range] at hx
  obtain ⟨k, hk, rfl⟩ := hx
  rw [inR_iff]; exact h k hk
def urT (l l' : List Int) (s t : Nat) : Int := l.getD t 0 + l'.getD t 0 + (popN (s - t) : Int)
def urS (l l' : List Int) (s : Nat) (b : Int) (t : Nat) : Int := if iand (t : Int) (s : Int) = t then (if urT l l' s t < b then urT l l' s t else b) else b
def urV (l l' : List Int) (s : Nat) : Nat → Int
  | 0 => popN s
  | k + 1 => urS l l' s (urV l l' s k) k
theorem urV_yes {l l' : List Int} {s k : Nat} (h : iand (k : Int) (s : Int) = k) : urV l l' s (k + 1) = if urT l l' s k < urV l l' s k then urT l l' s k else urV l l' s k := if_pos h
theorem urV_no {l l' : List Int} {s k : Nat} (h : ¬ iand (k : Int) (s : Int) = k) : urV l l' s (k + 1) = urV l l' s k := if_neg h
theorem urV_bd {l l' : List Int} {s : Nat} : ∀ k, (∀ t, t < k → 0 ≤ l.getD t 0 ∧ 0 ≤ l'.getD t 0) → 0 ≤ urV l l' s k ∧ urV l l' s k ≤ 62
  | 0, _ => by have := popN_le s; unfold urV; omega
  | k + 1, h => by
    have h1 := urV_bd (l := l) (l' := l') (s := s) k fun t ht => h t (by omega)
    have h2 := h k (by omega)
    have h3 : 0 ≤ urT l l' s k := by unfold urT; omega
    unfold urV urS
    split
    · split <;> omega
    · exact h1
def urF (l l' : List Int) (s : Int) : Int := urV l l' s.toNat (s.toNat + 1)
def tUr : Tab
  | [.i s, .ref [.i n, .sl .i64 l], .ref [.i n', .sl .i64 l']] => some (splPre n l n' l' s, .i (urF l l' s), [])
  | _ => none
theorem ur_ok : Fits Try.prog 117 tUr := by
  refine ⟨callable_of Try.func117 (by kernel_rfl) rfl, ?_⟩
  intro args p out Ho h hp
  unfold tUr at h
  split at h <;> cases h
  rename_i s n l n' l'
  refine ⟨acall_by (env_ok (env := [(118, tSize)]) (by simp only [List.forall_mem_cons, List.not_mem_nil, false_implies, implies_true, and_true]; exact sizeOf_ok)) Try.func117 rfl rfl rfl rfl rfl ?_, rfl, rfl⟩
  intro hlen c hc hX
  simp only [lensOk, AV.lenOk, true_and, and_true] at hlen
  simp only [Try.ntmps117, Try.results117, List.length_cons, List.length_nil, List.replicate, List.cons_append, List.nil_append, Nat.reduceAdd, Nat.reduceSub]
  obtain ⟨hf, hf', rfl, hs⟩ := hp
  obtain ⟨s, rfl⟩ := Int.eq_ofNat_of_zero_le hs.1
  have hs' := set_fn ⟨hf, hs⟩
  have hlen1 := fnV_len hf
  have hlen2 := fnV_len hf'
  rw [fnV_iff] at hf hf'
  repeat' first | ((with_reducible show aol _ _ _ _ _); first | (refine aol_guard_f (by rfl) ?_ ?_; (focus (simp only [go_sem]; done))) | (refine aol_guard_un (by rfl) ?_ ?_; (focus (simp only [go_sem]; done))) | ((first | (refine aol_guard_t (by rfl) ?_ ?_; (focus (simp only [go_sem]; done))) | (refine aol_guard_b (by rfl) (by rfl) (fun h => ?_) (fun h => ?_) <;> (try simp only [hsA, hsB, hsC, hsD, List.all_cons, List.all_nil, ne_eq, reduceCtorEq, inR_iff, inR_not, isSet_iff, isSet_not] at h))) <;> simp (config := { maxSteps := 2000000 }) (disch := omega) only [go_sem, ↓reduceIte, Nat.reduceEqDiff, Nat.reduceAdd, Nat.reduceLT, Nat.reduceLeDiff, Nat.reduceSub, tSize]) | simp (config := { maxSteps := 2000000 }) (disch := omega) only [go_sem, ↓reduceIte, Nat.reduceEqDiff, Nat.reduceAdd, Nat.reduceLT, Nat.reduceLeDiff, Nat.reduceSub, tSize]) | ((with_reducible refine hK _ ?_); clear hK K; try simp only [thn_n, blk_n, fin_n, finm_n]) | (with_reducible refine awp_seq fun K hK => ?_) | ((with_reducible show Awp _ _ (Code.region _ _ _) _ _); (first | refine awp_regK (by repeat constructor) (fun K hK => ?_) | (refine awp_drwK (by kernel_rfl) (by repeat constructor) (fun K hK => ?_))); simp (config := { maxSteps := 2000000 }) (disch := omega) only [go_sem, ↓reduceIte, Nat.reduceEqDiff, Nat.reduceAdd, Nat.reduceLT, Nat.reduceLeDiff, Nat.reduceSub, tSize]) | ((with_reducible show Awp _ _ (Code.cond _ _ _) _ _); refine awp_cond rfl (fun h => ?_) (fun h => ?_) <;> (try simp only [hsA, hsB, hsC, hsD, List.all_cons, List.all_nil, ne_eq, reduceCtorEq, inR_iff, inR_not, isSet_iff, isSet_not] at h)) | ((with_reducible refine awp_skip ?_); simp only [thn_n, blk_n, fin_n, finm_n]) | ((with_reducible refine awp_ret ?_); simp only [thn_r, blk_r, fin_r, finm_r]) | (with_reducible refine awp_block ?_) | ((with_reducible refine awp_exit ?_); simp only [thn_e, blk_e, blk_x, blk_n, thn_n, ne_eq, not_false_eq_true, Nat.reduceEqDiff, reduceCtorEq]; first | (refine hK _ ?_; clear hK K) | (clear hK K; refine hK _ ?_; clear hK K) | (clear hK K; clear hK K; refine hK _ ?_; clear hK K) | (clear hK K; clear hK K; clear hK K; refine hK _ ?_; clear hK K) | skip) | (with_reducible apply And.intro) | (with_reducible exact True.intro) | ((with_reducible show List.all _ _ = true); rfl) | ((with_reducible show lendOk _ _ = true); rfl) | omega | ((first | (with_reducible show ¬ _) | (with_reducible show _ → _)); intro h; first | contradiction | cases h; done | skip)
  all_goals (try (first | refine fin_keep ?_ | refine finm_keep ?_; repeat clear hK))
  refine awp_for (fun st (k : Nat) => st.at [0, 1, 2, 10] [(5, .i (urV l l' s k)), (11, .i k)] st.hp) (fun k => k ≤ s + 1) (fun k => s + 1 - k) 0 (Nat.zero_le _) ?_ ?_
  · simp [-List.getD_eq_getElem?_getD, -List.length_take, Le, leFr, ASt.at, keepFr, updAll, upd_zero, upd_succ, urV]
  rintro k hk
  simp only [ASt.at, keepFr, updAll, upd_zero, upd_succ, List.mem_cons, List.not_mem_nil, Nat.reduceEqDiff, Nat.reduceAdd, or_false, or_true, false_or, true_or, ↓reduceIte, eq_self]
  have hb1 := getD_bd hf.2.2 k
  have hb2 := getD_bd hf'.2.2 k
  have hsx : (k : Int) < (s : Int) + 1 → iandn (k : Int) (s : Int) = 0 → iandn (s : Int) (k : Int) = (s : Int) - (k : Int) := fun h1 h2 => iandn_sub (by omega) (by omega) h2
  have hz : (k : Int) < (s : Int) + 1 → (iandn (k : Int) (s : Int) = 0 ↔ iand (k : Int) (s : Int) = k) := fun h => iandn_zero' (by omega) (by omega)
  have hts : ((s : Int) - (k : Int)).toNat = s - k := by omega
  have hpn := popN_le (s - k)
  have hT : l.getD k 0 + l'.getD k 0 + ((popN (s - k) : Nat) : Int) = urT l l' s k := rfl
  repeat' first | ((with_reducible show aol _ _ _ _ _); first | (refine aol_guard_f (by rfl) ?_ ?_; (focus (simp only [go_sem]; done))) | (refine aol_guard_un (by rfl) ?_ ?_; (focus (simp only [go_sem]; done))) | ((first | (refine aol_guard_t (by rfl) ?_ ?_; (focus (simp only [go_sem]; done))) | (refine aol_guard_b (by rfl) (by rfl) (fun h => ?_) (fun h => ?_) <;> (try simp only [hsA, hsB, hsC, hsD, List.all_cons, List.all_nil, ne_eq, reduceCtorEq, inR_iff, inR_not, isSet_iff, isSet_not] at h))) <;> simp (config := { maxSteps := 2000000 }) (disch := omega) only [go_sem, ↓reduceIte, Nat.reduceEqDiff, Nat.reduceAdd, Nat.reduceLT, Nat.reduceLeDiff, Nat.reduceSub, tSize, hsx, hts, hT]) | simp (config := { maxSteps := 2000000 }) (disch := omega) only [go_sem, ↓reduceIte, Nat.reduceEqDiff, Nat.reduceAdd, Nat.reduceLT, Nat.reduceLeDiff, Nat.reduceSub, tSize, hsx, hts, hT]) | ((with_reducible refine hK _ ?_); clear hK K; try simp only [thn_n, blk_n, fin_n, finm_n]) | (with_reducible refine awp_seq fun K hK => ?_) | ((with_reducible show Awp _ _ (Code.region _ _ _) _ _); (first | refine awp_regK (by repeat constructor) (fun K hK => ?_) | (refine awp_drwK (by kernel_rfl) (by repeat constructor) (fun K hK => ?_))); simp (config := { maxSteps := 2000000 }) (disch := omega) only [go_sem, ↓reduceIte, Nat.reduceEqDiff, Nat.reduceAdd, Nat.reduceLT, Nat.reduceLeDiff, Nat.reduceSub, tSize, hsx, hts, hT]) | ((with_reducible show Awp _ _ (Code.cond _ _ _) _ _); refine awp_cond rfl (fun h => ?_) (fun h => ?_) <;> (try simp only [hsA, hsB, hsC, hsD, List.all_cons, List.all_nil, ne_eq, reduceCtorEq, inR_iff, inR_not, isSet_iff, isSet_not] at h)) | ((with_reducible refine awp_skip ?_); simp only [thn_n, blk_n, fin_n, finm_n]) | ((with_reducible refine awp_ret ?_); simp only [thn_r, blk_r, fin_r, finm_r]) | (with_reducible refine awp_block ?_) | ((with_reducible refine awp_exit ?_); simp only [thn_e, blk_e, blk_x, blk_n, thn_n, ne_eq, not_false_eq_true, Nat.reduceEqDiff, reduceCtorEq]; first | (refine hK _ ?_; clear hK K) | (clear hK K; refine hK _ ?_; clear hK K) | (clear hK K; clear hK K; refine hK _ ?_; clear hK K) | (clear hK K; clear hK K; clear hK K; refine hK _ ?_; clear hK K) | skip) | (with_reducible apply And.intro) | (with_reducible exact True.intro) | ((with_reducible show List.all _ _ = true); rfl) | ((with_reducible show lendOk _ _ = true); rfl) | omega | ((first | (with_reducible show ¬ _) | (with_reducible show _ → _)); intro h; first | contradiction | cases h; done | skip)
  all_goals (try (first | refine fin_keep ?_ | refine finm_keep ?_; repeat clear hK))
  · rename_i h1
    have e := urV_yes (l := l) (l' := l') ((hz h1).1 h)
    refine ⟨k + 1, by omega, by omega, ?_⟩
    simp [-List.getD_eq_getElem?_getD, -List.length_take, Le, leFr, ASt.at, keepFr, updAll, upd_zero, upd_succ, e]
  · rename_i h1
    have e := urV_no (l := l) (l' := l') fun h2 => absurd ((hz h1).2 h2) (by assumption)
    refine ⟨k + 1, by omega, by omega, ?_⟩
    simp [-List.getD_eq_getElem?_getD, -List.length_take, Le, leFr, ASt.at, keepFr, updAll, upd_zero, upd_succ, e]
  · obtain rfl : k = s + 1 := by omega
    refine fin_tmp rfl ?_; simp only [nth_zero, nth_succ, urF, Int.toNat_natCast]
def tUrF : Tab
  | [.i n, .fn 117 [.ref [.i m, .sl .i64 l], .ref [.i m', .sl .i64 l']]] => some ((0 ≤ n ∧ n ≤ 5) ∧ (n = m ∧ areV n l m' l' = true), .tu [.ag [.i (or0 (fnV n (mkL (urF l l') (2 ^ n.toNat))) n), .own 0], .b (fnV n (mkL (urF l l') (2 ^ n.toNat)))], [.row .i64 3 (orE (fnV n (mkL (urF l l') (2 ^ n.toNat))) (mkL (urF l l') (2 ^ n.toNat)))])
  | _ => none
theorem UrF_ok : Fits Try.prog 116 tUrF := by
  refine ⟨callable_of Try.func116 (by kernel_rfl) rfl, ?_⟩
  intro args p out Ho h hp
  unfold tUrF at h
  split at h <;> cases h
  rename_i n m l m' l'
  refine ⟨acall_by (env_ok (env := [(117, tUr), (144, tIsFn)]) (by simp only [List.forall_mem_cons, List.not_mem_nil, false_implies, implies_true, and_true]; exact ⟨ur_ok, implIsFn_ok⟩)) Try.func116 rfl rfl rfl rfl rfl ?_, rfl, rfl⟩
  intro hlen c hc hX
  simp only [lensOk, AV.lenOk, true_and, and_true] at hlen
  simp only [Try.ntmps116, Try.results116, List.length_cons, List.length_nil, List.replicate, List.cons_append, List.nil_append, Nat.reduceAdd, Nat.reduceSub]
  obtain ⟨hn, hpre⟩ := hp
  obtain ⟨rfl, hpre⟩ := hpre
  have hu := u64_id (n := n) (by omega) (by omega)
  have hsh := ishl_one (n := n) hn.1 (by omega)
  have hpw := pow_nat n.toNat
  have hp6 : 2 ^ n.toNat ≤ 64 := Nat.le_trans (Nat.pow_le_pow_right (by omega) (show n.toNat ≤ 6 by omega)) (by decide)
  repeat' first | ((with_reducible show aol _ _ _ _ _); first | (refine aol_guard_f (by rfl) ?_ ?_; (focus (simp only [go_sem]; done))) | (refine aol_guard_un (by rfl) ?_ ?_; (focus (simp only [go_sem]; done))) | ((first | (refine aol_guard_t (by rfl) ?_ ?_; (focus (simp only [go_sem]; done))) | (refine aol_guard_b (by rfl) (by rfl) (fun h => ?_) (fun h => ?_) <;> (try simp only [hsA, hsB, hsC, hsD, List.all_cons, List.all_nil, ne_eq, reduceCtorEq, inR_iff, inR_not, isSet_iff, isSet_not] at h))) <;> simp (config := { maxSteps := 2000000 }) (disch := omega) only [go_sem, ↓reduceIte, Nat.reduceEqDiff, Nat.reduceAdd, Nat.reduceLT, Nat.reduceLeDiff, Nat.reduceSub, tUr, hu, hsh]) | simp (config := { maxSteps := 2000000 }) (disch := omega) only [go_sem, ↓reduceIte, Nat.reduceEqDiff, Nat.reduceAdd, Nat.reduceLT, Nat.reduceLeDiff, Nat.reduceSub, tUr, hu, hsh]) | ((with_reducible refine hK _ ?_); clear hK K; try simp only [thn_n, blk_n, fin_n, finm_n]) | (with_reducible refine awp_seq fun K hK => ?_) | ((with_reducible show Awp _ _ (Code.region _ _ _) _ _); (first | refine awp_regK (by repeat constructor) (fun K hK => ?_) | (refine awp_drwK (by kernel_rfl) (by repeat constructor) (fun K hK => ?_))); simp (config := { maxSteps := 2000000 }) (disch := omega) only [go_sem, ↓reduceIte, Nat.reduceEqDiff, Nat.reduceAdd, Nat.reduceLT, Nat.reduceLeDiff, Nat.reduceSub, tUr, hu, hsh]) | ((with_reducible show Awp _ _ (Code.cond _ _ _) _ _); refine awp_cond rfl (fun h => ?_) (fun h => ?_) <;> (try simp only [hsA, hsB, hsC, hsD, List.all_cons, List.all_nil, ne_eq, reduceCtorEq, inR_iff, inR_not, isSet_iff, isSet_not] at h)) | ((with_reducible refine awp_skip ?_); simp only [thn_n, blk_n, fin_n, finm_n]) | ((with_reducible refine awp_ret ?_); simp only [thn_r, blk_r, fin_r, finm_r]) | (with_reducible refine awp_block ?_) | ((with_reducible refine awp_exit ?_); simp only [thn_e, blk_e, blk_x, blk_n, thn_n, ne_eq, not_false_eq_true, Nat.reduceEqDiff, reduceCtorEq]; first | (refine hK _ ?_; clear hK K) | (clear hK K; refine hK _ ?_; clear hK K) | (clear hK K; clear hK K; refine hK _ ?_; clear hK K) | (clear hK K; clear hK K; clear hK K; refine hK _ ?_; clear hK K) | skip) | (with_reducible apply And.intro) | (with_reducible exact True.intro) | ((with_reducible show List.all _ _ = true); rfl) | ((with_reducible show lendOk _ _ = true); rfl) | omega | ((first | (with_reducible show ¬ _) | (with_reducible show _ → _)); intro h; first | contradiction | cases h; done | skip)
  all_goals (try (first | refine fin_keep ?_ | refine finm_keep ?_; repeat clear hK))
  refine awp_wk (wk_cell .i64 3 (b := 1) (j := 1) rfl rfl (by simp)) ?_
  refine awp_forR 0 hX (fun st (k : Nat) => st.at [1, 4, 6, 12] [(13, .i k)] [.box 26 [.i 0, .nl], .box 26 [.i n, .own 2], .row .i64 3 (mkL (urF l l') k)]) (fun k => k ≤ 2 ^ n.toNat) (fun k => 2 ^ n.toNat - k) 0 (Nat.zero_le _) ?_ ?_
  · exact ⟨[0, 1, 2], rfl, rfl, by simp [-List.getD_eq_getElem?_getD, -List.length_take, List.getD_cons_zero, List.getD_cons_succ, leFr, ASt.at, keepFr, updAll, upd_zero, upd_succ, AV.rnb, AV.rnb0, mkL], by simp [-List.getD_eq_getElem?_getD, List.getD_cons_zero, List.getD_cons_succ, ASt.at, AO.rnb, AV.rnb0, upd_k0, upd_k1, upd_k2, upd_k3, mkL], rfl, rfl⟩
  rintro k hk
  simp only [ASt.at, keepFr, updAll, upd_zero, upd_succ, List.mem_cons, List.not_mem_nil, Nat.reduceEqDiff, Nat.reduceAdd, or_false, or_true, false_or, true_or, ↓reduceIte, eq_self]
  have hrl := mkL_len (urF l l') k
  have hcl : (k : Int) < 2 ^ n.toNat → (splPre n l m' l' (k : Int)) = True := fun hkn => eq_true (of_eq_true (spl_pre hpre ⟨by omega, hkn⟩))
  repeat' first | ((with_reducible show aol _ _ _ _ _); first | (refine aol_guard_f (by rfl) ?_ ?_; (focus (simp only [go_sem]; done))) | (refine aol_guard_un (by rfl) ?_ ?_; (focus (simp only [go_sem]; done))) | ((first | (refine aol_guard_t (by rfl) ?_ ?_; (focus (simp only [go_sem]; done))) | (refine aol_guard_b (by rfl) (by rfl) (fun h => ?_) (fun h => ?_) <;> (try simp only [hsA, hsB, hsC, hsD, List.all_cons, List.all_nil, ne_eq, reduceCtorEq, inR_iff, inR_not, isSet_iff, isSet_not] at h))) <;> simp (config := { maxSteps := 2000000 }) (disch := omega) only [go_sem, ↓reduceIte, Nat.reduceEqDiff, Nat.reduceAdd, Nat.reduceLT, Nat.reduceLeDiff, Nat.reduceSub, tUr, hpre, hcl, tIsFn]) | simp (config := { maxSteps := 2000000 }) (disch := omega) only [go_sem, ↓reduceIte, Nat.reduceEqDiff, Nat.reduceAdd, Nat.reduceLT, Nat.reduceLeDiff, Nat.reduceSub, tUr, hpre, hcl, tIsFn]) | ((with_reducible refine hK _ ?_); clear hK K; try simp only [thn_n, blk_n, fin_n, finm_n]) | (with_reducible refine awp_seq fun K hK => ?_) | ((with_reducible show Awp _ _ (Code.region _ _ _) _ _); (first | refine awp_regK (by repeat constructor) (fun K hK => ?_) | (refine awp_drwK (by kernel_rfl) (by repeat constructor) (fun K hK => ?_))); simp (config := { maxSteps := 2000000 }) (disch := omega) only [go_sem, ↓reduceIte, Nat.reduceEqDiff, Nat.reduceAdd, Nat.reduceLT, Nat.reduceLeDiff, Nat.reduceSub, tUr, hpre, hcl, tIsFn]) | ((with_reducible show Awp _ _ (Code.cond _ _ _) _ _); refine awp_cond rfl (fun h => ?_) (fun h => ?_) <;> (try simp only [hsA, hsB, hsC, hsD, List.all_cons, List.all_nil, ne_eq, reduceCtorEq, inR_iff, inR_not, isSet_iff, isSet_not] at h)) | ((with_reducible refine awp_skip ?_); simp only [thn_n, blk_n, fin_n, finm_n]) | ((with_reducible refine awp_ret ?_); simp only [thn_r, blk_r, fin_r, finm_r]) | (with_reducible refine awp_block ?_) | ((with_reducible refine awp_exit ?_); simp only [thn_e, blk_e, blk_x, blk_n, thn_n, ne_eq, not_false_eq_true, Nat.reduceEqDiff, reduceCtorEq]; first | (refine hK _ ?_; clear hK K) | (clear hK K; refine hK _ ?_; clear hK K) | (clear hK K; clear hK K; refine hK _ ?_; clear hK K) | (clear hK K; clear hK K; clear hK K; refine hK _ ?_; clear hK K) | skip) | (with_reducible apply And.intro) | (with_reducible exact True.intro) | ((with_reducible show List.all _ _ = true); rfl) | ((with_reducible show lendOk _ _ = true); rfl) | omega | ((first | (with_reducible show ¬ _) | (with_reducible show _ → _)); intro h; first | contradiction | cases h; done | skip)
  all_goals (try (first | refine fin_keep ?_ | refine finm_keep ?_; repeat clear hK))
  · refine ⟨k + 1, by omega, by omega, ?_⟩
    rw [mkL_succ]
    exact ⟨[0, 1, 4], rfl, rfl, by simp [-List.getD_eq_getElem?_getD, -List.length_take, List.getD_cons_zero, List.getD_cons_succ, leFr, ASt.at, keepFr, updAll, upd_zero, upd_succ, AV.rnb, AV.rnb0], by simp [-List.getD_eq_getElem?_getD, List.getD_cons_zero, List.getD_cons_succ, ASt.at, AO.rnb, AV.rnb0, upd_k0, upd_k1, upd_k2, upd_k3], rfl, rfl⟩
  · obtain rfl : k = 2 ^ n.toNat := by omega
    rw [h]; exact fin_pairb_nl (d := tPair) rfl rfl rfl rfl rfl rfl
  · obtain rfl : k = 2 ^ n.toNat := by omega
    rw [h]; exact fin_pairb (d := tPair) rfl rfl rfl rfl rfl rfl rfl

def tUn : Tab
  | [.ag [.i n, .sl .i64 l], .ag [.i n', .sl .i64 l']] => some (True, .tu [.ag [.i (or0 (areV n l n' l') n), .own 0], .b (areV n l n' l')], [.row .i64 3 (orE (areV n l n' l') (mkL (urF l l') (2 ^ n.toNat)))])
  | _ => none
theorem ur_fn {n n' : Int} {l l' : List Int} (h : areV n l n' l' = true) : fnV n (mkL (urF l l') (2 ^ n.toNat)) = true := by
  obtain ⟨h1, h2, rfl⟩ := are_iff.1 h
  refine mk_fn (fnV_iff.1 (mat_fn h1)).1 fun k hk => ?_
  have hl1 := fnV_len (mat_fn h1)
  have hl2 := fnV_len (mat_fn h2)
  have := urV_bd (l := l) (l' := l') (s := k) (k + 1) fun t ht => ⟨pol_nn (mat_pol h1) t (by omega), pol_nn (mat_pol h2) t (by omega)⟩
  unfold urF
  rw [Int.toNat_natCast]
  omega
theorem or0_t (g : Int) : or0 true g = g := rfl
theorem orE_t (l : List Int) : orE true l = l := rfl
theorem implUn_ok : Fits Try.prog 10 tUn := by
  refine ⟨callable_of Try.func10 (by kernel_rfl) rfl, ?_⟩
  intro args p out Ho h hp
  unfold tUn at h
  split at h <;> cases h
  rename_i n l n' l'
  refine ⟨acall_by (env_ok (env := [(115, tAre), (116, tUrF)]) (by simp only [List.forall_mem_cons, List.not_mem_nil, false_implies, implies_true, and_true]; exact ⟨are_ok, UrF_ok⟩)) Try.func10 rfl rfl rfl rfl rfl ?_, rfl, rfl⟩
  intro hlen c hc hX
  simp only [lensOk, AV.lenOk, true_and, and_true] at hlen
  simp only [Try.ntmps10, Try.results10, List.length_cons, List.length_nil, List.replicate, List.cons_append, List.nil_append, Nat.reduceAdd, Nat.reduceSub]
  cases hg : areV n l n' l' with
  | false =>
    repeat' first | ((with_reducible show aol _ _ _ _ _); first | (refine aol_guard_f (by rfl) ?_ ?_; (focus (simp only [go_sem]; done))) | (refine aol_guard_un (by rfl) ?_ ?_; (focus (simp only [go_sem]; done))) | ((first | (refine aol_guard_t (by rfl) ?_ ?_; (focus (simp only [go_sem]; done))) | (refine aol_guard_b (by rfl) (by rfl) (fun h => ?_) (fun h => ?_) <;> (try simp only [hsA, hsB, hsC, hsD, List.all_cons, List.all_nil, ne_eq, reduceCtorEq, inR_iff, inR_not, isSet_iff, isSet_not] at h))) <;> simp (config := { maxSteps := 2000000 }) (disch := omega) only [go_sem, ↓reduceIte, Nat.reduceEqDiff, Nat.reduceAdd, Nat.reduceLT, Nat.reduceLeDiff, Nat.reduceSub, tAre, hg]) | simp (config := { maxSteps := 2000000 }) (disch := omega) only [go_sem, ↓reduceIte, Nat.reduceEqDiff, Nat.reduceAdd, Nat.reduceLT, Nat.reduceLeDiff, Nat.reduceSub, tAre, hg]) | ((with_reducible refine hK _ ?_); clear hK K; try simp only [thn_n, blk_n, fin_n, finm_n]) | (with_reducible refine awp_seq fun K hK => ?_) | ((with_reducible show Awp _ _ (Code.region _ _ _) _ _); (first | refine awp_regK (by repeat constructor) (fun K hK => ?_) | (refine awp_drwK (by kernel_rfl) (by repeat constructor) (fun K hK => ?_))); simp (config := { maxSteps := 2000000 }) (disch := omega) only [go_sem, ↓reduceIte, Nat.reduceEqDiff, Nat.reduceAdd, Nat.reduceLT, Nat.reduceLeDiff, Nat.reduceSub, tAre, hg]) | ((with_reducible show Awp _ _ (Code.cond _ _ _) _ _); refine awp_cond rfl (fun h => ?_) (fun h => ?_) <;> (try simp only [hsA, hsB, hsC, hsD, List.all_cons, List.all_nil, ne_eq, reduceCtorEq, inR_iff, inR_not, isSet_iff, isSet_not] at h)) | ((with_reducible refine awp_skip ?_); simp only [thn_n, blk_n, fin_n, finm_n]) | ((with_reducible refine awp_ret ?_); simp only [thn_r, blk_r, fin_r, finm_r]) | (with_reducible refine awp_block ?_) | ((with_reducible refine awp_exit ?_); simp only [thn_e, blk_e, blk_x, blk_n, thn_n, ne_eq, not_false_eq_true, Nat.reduceEqDiff, reduceCtorEq]; first | (refine hK _ ?_; clear hK K) | (clear hK K; refine hK _ ?_; clear hK K) | (clear hK K; clear hK K; refine hK _ ?_; clear hK K) | (clear hK K; clear hK K; clear hK K; refine hK _ ?_; clear hK K) | skip) | (with_reducible apply And.intro) | (with_reducible exact True.intro) | ((with_reducible show List.all _ _ = true); rfl) | ((with_reducible show lendOk _ _ = true); rfl) | omega | ((first | (with_reducible show ¬ _) | (with_reducible show _ → _)); intro h; first | contradiction | cases h; done | skip)
    all_goals (try (first | refine fin_keep ?_ | refine finm_keep ?_; repeat clear hK))
    exact fin_pairb_nl (d := tPair) rfl rfl rfl rfl rfl rfl
  | true =>
    have hn := (fnV_iff.1 (mat_fn (are_iff.1 hg).1)).1
    have hfn := ur_fn hg
    repeat' first | ((with_reducible show aol _ _ _ _ _); first | (refine aol_guard_f (by rfl) ?_ ?_; (focus (simp only [go_sem]; done))) | (refine aol_guard_un (by rfl) ?_ ?_; (focus (simp only [go_sem]; done))) | ((first | (refine aol_guard_t (by rfl) ?_ ?_; (focus (simp only [go_sem]; done))) | (refine aol_guard_b (by rfl) (by rfl) (fun h => ?_) (fun h => ?_) <;> (try simp only [hsA, hsB, hsC, hsD, List.all_cons, List.all_nil, ne_eq, reduceCtorEq, inR_iff, inR_not, isSet_iff, isSet_not] at h))) <;> simp (config := { maxSteps := 2000000 }) (disch := omega) only [go_sem, ↓reduceIte, Nat.reduceEqDiff, Nat.reduceAdd, Nat.reduceLT, Nat.reduceLeDiff, Nat.reduceSub, tAre, hg, tUrF, hfn, or0_t, orE_t]) | simp (config := { maxSteps := 2000000 }) (disch := omega) only [go_sem, ↓reduceIte, Nat.reduceEqDiff, Nat.reduceAdd, Nat.reduceLT, Nat.reduceLeDiff, Nat.reduceSub, tAre, hg, tUrF, hfn, or0_t, orE_t]) | ((with_reducible refine hK _ ?_); clear hK K; try simp only [thn_n, blk_n, fin_n, finm_n]) | (with_reducible refine awp_seq fun K hK => ?_) | ((with_reducible show Awp _ _ (Code.region _ _ _) _ _); (first | refine awp_regK (by repeat constructor) (fun K hK => ?_) | (refine awp_drwK (by kernel_rfl) (by repeat constructor) (fun K hK => ?_))); simp (config := { maxSteps := 2000000 }) (disch := omega) only [go_sem, ↓reduceIte, Nat.reduceEqDiff, Nat.reduceAdd, Nat.reduceLT, Nat.reduceLeDiff, Nat.reduceSub, tAre, hg, tUrF, hfn, or0_t, orE_t]) | ((with_reducible show Awp _ _ (Code.cond _ _ _) _ _); refine awp_cond rfl (fun h => ?_) (fun h => ?_) <;> (try simp only [hsA, hsB, hsC, hsD, List.all_cons, List.all_nil, ne_eq, reduceCtorEq, inR_iff, inR_not, isSet_iff, isSet_not] at h)) | ((with_reducible refine awp_skip ?_); simp only [thn_n, blk_n, fin_n, finm_n]) | ((with_reducible refine awp_ret ?_); simp only [thn_r, blk_r, fin_r, finm_r]) | (with_reducible refine awp_block ?_) | ((with_reducible refine awp_exit ?_); simp only [thn_e, blk_e, blk_x, blk_n, thn_n, ne_eq, not_false_eq_true, Nat.reduceEqDiff, reduceCtorEq]; first | (refine hK _ ?_; clear hK K) | (clear hK K; refine hK _ ?_; clear hK K) | (clear hK K; clear hK K; refine hK _ ?_; clear hK K) | (clear hK K; clear hK K; clear hK K; refine hK _ ?_; clear hK K) | skip) | (with_reducible apply And.intro) | (with_reducible exact True.intro) | ((with_reducible show List.all _ _ = true); rfl) | ((with_reducible show lendOk _ _ = true); rfl) | omega | ((first | (with_reducible show ¬ _) | (with_reducible show _ → _)); intro h; first | contradiction | cases h; done | skip)
    all_goals (try (first | refine fin_keep ?_ | refine finm_keep ?_; repeat clear hK))
    exact fin_pairb (d := tPair) rfl rfl rfl rfl rfl rfl rfl
theorem specUn_ok : Fits Try.prog 11 tUn := by
  refine ⟨callable_of Try.func11 (by kernel_rfl) rfl, ?_⟩
  intro args p out Ho h hp
  unfold tUn at h
  split at h <;> cases h
  rename_i n l n' l'
  refine ⟨acall_by (env_ok (env := [(119, tAre), (120, tSize2)]) (by simp only [List.forall_mem_cons, List.not_mem_nil, false_implies, implies_true, and_true]; exact ⟨fit_ok, size2_ok⟩)) Try.func11 rfl rfl rfl rfl rfl ?_, rfl, rfl⟩
  intro hlen c hc hX
  simp only [lensOk, AV.lenOk, true_and, and_true] at hlen
  simp only [Try.ntmps11, Try.results11, List.length_cons, List.length_nil, List.replicate, List.cons_append, List.nil_append, Nat.reduceAdd, Nat.reduceSub]
  cases hg : areV n l n' l' with
  | false =>
    repeat' first | ((with_reducible show aol _ _ _ _ _); first | (refine aol_guard_f (by rfl) ?_ ?_; (focus (simp only [go_sem]; done))) | (refine aol_guard_un (by rfl) ?_ ?_; (focus (simp only [go_sem]; done))) | ((first | (refine aol_guard_t (by rfl) ?_ ?_; (focus (simp only [go_sem]; done))) | (refine aol_guard_b (by rfl) (by rfl) (fun h => ?_) (fun h => ?_) <;> (try simp only [hsA, hsB, hsC, hsD, List.all_cons, List.all_nil, ne_eq, reduceCtorEq, inR_iff, inR_not, isSet_iff, isSet_not] at h))) <;> simp (config := { maxSteps := 2000000 }) (disch := omega) only [go_sem, ↓reduceIte, Nat.reduceEqDiff, Nat.reduceAdd, Nat.reduceLT, Nat.reduceLeDiff, Nat.reduceSub, tAre, hg]) | simp (config := { maxSteps := 2000000 }) (disch := omega) only [go_sem, ↓reduceIte, Nat.reduceEqDiff, Nat.reduceAdd, Nat.reduceLT, Nat.reduceLeDiff, Nat.reduceSub, tAre, hg]) | ((with_reducible refine hK _ ?_); clear hK K; try simp only [thn_n, blk_n, fin_n, finm_n]) | (with_reducible refine awp_seq fun K hK => ?_) | ((with_reducible show Awp _ _ (Code.region _ _ _) _ _); (first | refine awp_regK (by repeat constructor) (fun K hK => ?_) | (refine awp_drwK (by kernel_rfl) (by repeat constructor) (fun K hK => ?_))); simp (config := { maxSteps := 2000000 }) (disch := omega) only [go_sem, ↓reduceIte, Nat.reduceEqDiff, Nat.reduceAdd, Nat.reduceLT, Nat.reduceLeDiff, Nat.reduceSub, tAre, hg]) | ((with_reducible show Awp _ _ (Code.cond _ _ _) _ _); refine awp_cond rfl (fun h => ?_) (fun h => ?_) <;> (try simp only [hsA, hsB, hsC, hsD, List.all_cons, List.all_nil, ne_eq, reduceCtorEq, inR_iff, inR_not, isSet_iff, isSet_not] at h)) | ((with_reducible refine awp_skip ?_); simp only [thn_n, blk_n, fin_n, finm_n]) | ((with_reducible refine awp_ret ?_); simp only [thn_r, blk_r, fin_r, finm_r]) | (with_reducible refine awp_block ?_) | ((with_reducible refine awp_exit ?_); simp only [thn_e, blk_e, blk_x, blk_n, thn_n, ne_eq, not_false_eq_true, Nat.reduceEqDiff, reduceCtorEq]; first | (refine hK _ ?_; clear hK K) | (clear hK K; refine hK _ ?_; clear hK K) | (clear hK K; clear hK K; refine hK _ ?_; clear hK K) | (clear hK K; clear hK K; clear hK K; refine hK _ ?_; clear hK K) | skip) | (with_reducible apply And.intro) | (with_reducible exact True.intro) | ((with_reducible show List.all _ _ = true); rfl) | ((with_reducible show lendOk _ _ = true); rfl) | omega | ((first | (with_reducible show ¬ _) | (with_reducible show _ → _)); intro h; first | contradiction | cases h; done | skip)
    all_goals (try (first | refine fin_keep ?_ | refine finm_keep ?_; repeat clear hK))
    exact fin_pairb_nl (d := tPair) rfl rfl rfl rfl rfl rfl
  | true =>
    have hm := are_iff.1 hg
    have hf := fnV_iff.1 (mat_fn hm.1)
    have hf' := fnV_iff.1 (mat_fn hm.2.1)
    have hlen1 := fnV_len (mat_fn hm.1)
    have hlen2 := fnV_len (mat_fn hm.2.1)
    rw [← hm.2.2] at hlen2
    have hp6 : 2 ^ n.toNat ≤ 32 := Nat.le_trans (Nat.pow_le_pow_right (by omega) (show n.toNat ≤ 5 by omega)) (by decide)
    repeat' first | ((with_reducible show aol _ _ _ _ _); first | (refine aol_guard_f (by rfl) ?_ ?_; (focus (simp only [go_sem]; done))) | (refine aol_guard_un (by rfl) ?_ ?_; (focus (simp only [go_sem]; done))) | ((first | (refine aol_guard_t (by rfl) ?_ ?_; (focus (simp only [go_sem]; done))) | (refine aol_guard_b (by rfl) (by rfl) (fun h => ?_) (fun h => ?_) <;> (try simp only [hsA, hsB, hsC, hsD, List.all_cons, List.all_nil, ne_eq, reduceCtorEq, inR_iff, inR_not, isSet_iff, isSet_not] at h))) <;> simp (config := { maxSteps := 2000000 }) (disch := omega) only [go_sem, ↓reduceIte, Nat.reduceEqDiff, Nat.reduceAdd, Nat.reduceLT, Nat.reduceLeDiff, Nat.reduceSub, tAre, hg]) | simp (config := { maxSteps := 2000000 }) (disch := omega) only [go_sem, ↓reduceIte, Nat.reduceEqDiff, Nat.reduceAdd, Nat.reduceLT, Nat.reduceLeDiff, Nat.reduceSub, tAre, hg]) | ((with_reducible refine hK _ ?_); clear hK K; try simp only [thn_n, blk_n, fin_n, finm_n]) | (with_reducible refine awp_seq fun K hK => ?_) | ((with_reducible show Awp _ _ (Code.region _ _ _) _ _); (first | refine awp_regK (by repeat constructor) (fun K hK => ?_) | (refine awp_drwK (by kernel_rfl) (by repeat constructor) (fun K hK => ?_))); simp (config := { maxSteps := 2000000 }) (disch := omega) only [go_sem, ↓reduceIte, Nat.reduceEqDiff, Nat.reduceAdd, Nat.reduceLT, Nat.reduceLeDiff, Nat.reduceSub, tAre, hg]) | ((with_reducible show Awp _ _ (Code.cond _ _ _) _ _); refine awp_cond rfl (fun h => ?_) (fun h => ?_) <;> (try simp only [hsA, hsB, hsC, hsD, List.all_cons, List.all_nil, ne_eq, reduceCtorEq, inR_iff, inR_not, isSet_iff, isSet_not] at h)) | ((with_reducible refine awp_skip ?_); simp only [thn_n, blk_n, fin_n, finm_n]) | ((with_reducible refine awp_ret ?_); simp only [thn_r, blk_r, fin_r, finm_r]) | (with_reducible refine awp_block ?_) | ((with_reducible refine awp_exit ?_); simp only [thn_e, blk_e, blk_x, blk_n, thn_n, ne_eq, not_false_eq_true, Nat.reduceEqDiff, reduceCtorEq]; first | (refine hK _ ?_; clear hK K) | (clear hK K; refine hK _ ?_; clear hK K) | (clear hK K; clear hK K; refine hK _ ?_; clear hK K) | (clear hK K; clear hK K; clear hK K; refine hK _ ?_; clear hK K) | skip) | (with_reducible apply And.intro) | (with_reducible exact True.intro) | ((with_reducible show List.all _ _ = true); rfl) | ((with_reducible show lendOk _ _ = true); rfl) | omega | ((first | (with_reducible show ¬ _) | (with_reducible show _ → _)); intro h; first | contradiction | cases h; done | skip)
    all_goals (try (first | refine fin_keep ?_ | refine finm_keep ?_; repeat clear hK))
    refine awp_forR 0 hX (fun st (s : Nat) => st.at [2, 3, 4] [(6, .own 3), (7, .i s)] [.box 26 [.i n, .sl .i64 l], .box 26 [.i n', .sl .i64 l'], .box 26 [.i 0, .nl], .row .i64 3 (mkL (urF l l') s)]) (fun s => s ≤ l.length) (fun s => l.length - s) 0 (Nat.zero_le _) ?_ ?_
    · exact ⟨[0, 1, 2, 3], rfl, rfl, by simp [-List.getD_eq_getElem?_getD, -List.length_take, List.getD_cons_zero, List.getD_cons_succ, leFr, ASt.at, keepFr, updAll, upd_zero, upd_succ, AV.rnb, AV.rnb0, mkL], by simp [-List.getD_eq_getElem?_getD, List.getD_cons_zero, List.getD_cons_succ, ASt.at, AO.rnb, AV.rnb0, upd_k0, upd_k1, upd_k2, upd_k3, mkL], rfl, rfl⟩
    rintro s hs
    simp only [ASt.at, keepFr, updAll, upd_zero, upd_succ, List.mem_cons, List.not_mem_nil, Nat.reduceEqDiff, Nat.reduceAdd, or_false, or_true, false_or, true_or, ↓reduceIte, eq_self]
    have hml := mkL_len (urF l l') s
    have hps := popN_le s
    repeat' first | ((with_reducible show aol _ _ _ _ _); first | (refine aol_guard_f (by rfl) ?_ ?_; (focus (simp only [go_sem]; done))) | (refine aol_guard_un (by rfl) ?_ ?_; (focus (simp only [go_sem]; done))) | ((first | (refine aol_guard_t (by rfl) ?_ ?_; (focus (simp only [go_sem]; done))) | (refine aol_guard_b (by rfl) (by rfl) (fun h => ?_) (fun h => ?_) <;> (try simp only [hsA, hsB, hsC, hsD, List.all_cons, List.all_nil, ne_eq, reduceCtorEq, inR_iff, inR_not, isSet_iff, isSet_not] at h))) <;> simp (config := { maxSteps := 2000000 }) (disch := omega) only [go_sem, ↓reduceIte, Nat.reduceEqDiff, Nat.reduceAdd, Nat.reduceLT, Nat.reduceLeDiff, Nat.reduceSub, tSize2]) | simp (config := { maxSteps := 2000000 }) (disch := omega) only [go_sem, ↓reduceIte, Nat.reduceEqDiff, Nat.reduceAdd, Nat.reduceLT, Nat.reduceLeDiff, Nat.reduceSub, tSize2]) | ((with_reducible refine hK _ ?_); clear hK K; try simp only [thn_n, blk_n, fin_n, finm_n]) | (with_reducible refine awp_seq fun K hK => ?_) | ((with_reducible show Awp _ _ (Code.region _ _ _) _ _); (first | refine awp_regK (by repeat constructor) (fun K hK => ?_) | (refine awp_drwK (by kernel_rfl) (by repeat constructor) (fun K hK => ?_))); simp (config := { maxSteps := 2000000 }) (disch := omega) only [go_sem, ↓reduceIte, Nat.reduceEqDiff, Nat.reduceAdd, Nat.reduceLT, Nat.reduceLeDiff, Nat.reduceSub, tSize2]) | ((with_reducible show Awp _ _ (Code.cond _ _ _) _ _); refine awp_cond rfl (fun h => ?_) (fun h => ?_) <;> (try simp only [hsA, hsB, hsC, hsD, List.all_cons, List.all_nil, ne_eq, reduceCtorEq, inR_iff, inR_not, isSet_iff, isSet_not] at h)) | ((with_reducible refine awp_skip ?_); simp only [thn_n, blk_n, fin_n, finm_n]) | ((with_reducible refine awp_ret ?_); simp only [thn_r, blk_r, fin_r, finm_r]) | (with_reducible refine awp_block ?_) | ((with_reducible refine awp_exit ?_); simp only [thn_e, blk_e, blk_x, blk_n, thn_n, ne_eq, not_false_eq_true, Nat.reduceEqDiff, reduceCtorEq]; first | (refine hK _ ?_; clear hK K) | (clear hK K; refine hK _ ?_; clear hK K) | (clear hK K; clear hK K; refine hK _ ?_; clear hK K) | (clear hK K; clear hK K; clear hK K; refine hK _ ?_; clear hK K) | skip) | (with_reducible apply And.intro) | (with_reducible exact True.intro) | ((with_reducible show List.all _ _ = true); rfl) | ((with_reducible show lendOk _ _ = true); rfl) | omega | ((first | (with_reducible show ¬ _) | (with_reducible show _ → _)); intro h; first | contradiction | cases h; done | skip)
    all_goals (try (first | refine fin_keep ?_ | refine finm_keep ?_; repeat clear hK))
    · refine awp_for (fun st (k : Nat) => st.at [2, 3, 4, 6, 7] [(8, .i (urV l l' s k)), (9, .i k)] st.hp) (fun k => k ≤ s + 1) (fun k => s + 1 - k) 0 (Nat.zero_le _) ?_ ?_
      · simp [-List.getD_eq_getElem?_getD, -List.length_take, Le, leFr, ASt.at, keepFr, updAll, upd_zero, upd_succ, urV]
      rintro k hk
      simp only [ASt.at, keepFr, updAll, upd_zero, upd_succ, List.mem_cons, List.not_mem_nil, Nat.reduceEqDiff, Nat.reduceAdd, or_false, or_true, false_or, true_or, ↓reduceIte, eq_self]
      have hb1 := getD_bd hf.2.2 k
      have hb2 := getD_bd hf'.2.2 k
      have hts : ((s : Int) - (k : Int)).toNat = s - k := by omega
      have hpn := popN_le (s - k)
      have hT : l.getD k 0 + l'.getD k 0 + ((popN (s - k) : Nat) : Int) = urT l l' s k := rfl
      repeat' first | ((with_reducible show aol _ _ _ _ _); first | (refine aol_guard_f (by rfl) ?_ ?_; (focus (simp only [go_sem]; done))) | (refine aol_guard_un (by rfl) ?_ ?_; (focus (simp only [go_sem]; done))) | ((first | (refine aol_guard_t (by rfl) ?_ ?_; (focus (simp only [go_sem]; done))) | (refine aol_guard_b (by rfl) (by rfl) (fun h => ?_) (fun h => ?_) <;> (try simp only [hsA, hsB, hsC, hsD, List.all_cons, List.all_nil, ne_eq, reduceCtorEq, inR_iff, inR_not, isSet_iff, isSet_not] at h))) <;> simp (config := { maxSteps := 2000000 }) (disch := omega) only [go_sem, ↓reduceIte, Nat.reduceEqDiff, Nat.reduceAdd, Nat.reduceLT, Nat.reduceLeDiff, Nat.reduceSub, tSize2, hts, hT]) | simp (config := { maxSteps := 2000000 }) (disch := omega) only [go_sem, ↓reduceIte, Nat.reduceEqDiff, Nat.reduceAdd, Nat.reduceLT, Nat.reduceLeDiff, Nat.reduceSub, tSize2, hts, hT]) | ((with_reducible refine hK _ ?_); clear hK K; try simp only [thn_n, blk_n, fin_n, finm_n]) | (with_reducible refine awp_seq fun K hK => ?_) | ((with_reducible show Awp _ _ (Code.region _ _ _) _ _); (first | refine awp_regK (by repeat constructor) (fun K hK => ?_) | (refine awp_drwK (by kernel_rfl) (by repeat constructor) (fun K hK => ?_))); simp (config := { maxSteps := 2000000 }) (disch := omega) only [go_sem, ↓reduceIte, Nat.reduceEqDiff, Nat.reduceAdd, Nat.reduceLT, Nat.reduceLeDiff, Nat.reduceSub, tSize2, hts, hT]) | ((with_reducible show Awp _ _ (Code.cond _ _ _) _ _); refine awp_cond rfl (fun h => ?_) (fun h => ?_) <;> (try simp only [hsA, hsB, hsC, hsD, List.all_cons, List.all_nil, ne_eq, reduceCtorEq, inR_iff, inR_not, isSet_iff, isSet_not] at h)) | ((with_reducible refine awp_skip ?_); simp only [thn_n, blk_n, fin_n, finm_n]) | ((with_reducible refine awp_ret ?_); simp only [thn_r, blk_r, fin_r, finm_r]) | (with_reducible refine awp_block ?_) | ((with_reducible refine awp_exit ?_); simp only [thn_e, blk_e, blk_x, blk_n, thn_n, ne_eq, not_false_eq_true, Nat.reduceEqDiff, reduceCtorEq]; first | (refine hK _ ?_; clear hK K) | (clear hK K; refine hK _ ?_; clear hK K) | (clear hK K; clear hK K; refine hK _ ?_; clear hK K) | (clear hK K; clear hK K; clear hK K; refine hK _ ?_; clear hK K) | skip) | (with_reducible apply And.intro) | (with_reducible exact True.intro) | ((with_reducible show List.all _ _ = true); rfl) | ((with_reducible show lendOk _ _ = true); rfl) | omega | ((first | (with_reducible show ¬ _) | (with_reducible show _ → _)); intro h; first | contradiction | cases h; done | skip)
      all_goals (try (first | refine fin_keep ?_ | refine finm_keep ?_; repeat clear hK))
      · have e := urV_yes (l := l) (l' := l') h
        refine ⟨k + 1, by omega, by omega, ?_⟩
        simp [-List.getD_eq_getElem?_getD, -List.length_take, Le, leFr, ASt.at, keepFr, updAll, upd_zero, upd_succ, e]
      · have e := urV_no (l := l) (l' := l') (s := s) (k := k) (by assumption)
        refine ⟨k + 1, by omega, by omega, ?_⟩
        simp [-List.getD_eq_getElem?_getD, -List.length_take, Le, leFr, ASt.at, keepFr, updAll, upd_zero, upd_succ, e]
      · obtain rfl : k = s + 1 := by omega
        have e : urV l l' s (s + 1) = urF l l' (s : Int) := by rw [urF, Int.toNat_natCast]
        refine ⟨s + 1, by omega, by omega, ?_⟩
        rw [mkL_succ]
        exact ⟨[0, 1, 2, 5], rfl, rfl, by simp [-List.getD_eq_getElem?_getD, -List.length_take, List.getD_cons_zero, List.getD_cons_succ, leFr, ASt.at, keepFr, updAll, upd_zero, upd_succ, AV.rnb, AV.rnb0, e], by simp [-List.getD_eq_getElem?_getD, List.getD_cons_zero, List.getD_cons_succ, ASt.at, AO.rnb, AV.rnb0, upd_k0, upd_k1, upd_k2, upd_k3, e], rfl, rfl⟩
    · obtain rfl : s = l.length := by omega
      rw [orE_t, ← hlen1]
      exact fin_pairb (d := tPair) rfl rfl rfl rfl rfl rfl rfl
end Go.Proofs.Ytjlpjkiadohkiaa
