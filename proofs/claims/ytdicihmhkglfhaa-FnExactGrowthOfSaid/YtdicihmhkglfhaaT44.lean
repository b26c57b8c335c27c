import Derived.Test.YtdicihmhkglfhaaT43
set_option linter.unusedSimpArgs false
set_option linter.unusedVariables false
set_option maxHeartbeats 2000000
namespace Go.Proofs.Ytdicihmhkglfhaa
open Go Go.Ab
attribute [local irreducible] aol
attribute [local irreducible] popN


theorem fin_nl {C : Cfg} {t : Tmp} {k : IntKind} {E : TypeId} {s : ASt} (ht : t < s.fr.length) (h : nth s.fr t = .nl) : FinS C [.tmp t] (.own 0) [.row k E []] s := by
  refine FinS.wk (wk_nl k E h) (fin_own (j := s.hp.length) (nth_upd_same _ _ _ ht) ?_)
  show (s.hp ++ [AO.row k E []])[s.hp.length]? = _
  rw [List.getElem?_append_right (Nat.le_refl _)]; simp
def gwS (l : List Int) (k : Nat) (a : List Int) : List Int :=
  a.set (popN k) (if a.getD (popN k) 0 < ((gatV (trL l k)).length : Int) then ((gatV (trL l k)).length : Int) else a.getD (popN k) 0)
def gwV (g : Int) (l : List Int) : Nat → List Int
  | 0 => List.replicate (g + 1).toNat 0
  | k + 1 => gwS l k (gwV g l k)
theorem gwV_len (g : Int) (l : List Int) : ∀ k, (gwV g l k).length = (g + 1).toNat
  | 0 => by show (List.replicate (g + 1).toNat (0 : Int)).length = _; simp
  | k + 1 => by show (gwS l k (gwV g l k)).length = _; rw [gwS, List.length_set, gwV_len g l k]
theorem pop_lt {g : Int} (h : 0 ≤ g ∧ g ≤ 6) {k : Nat} (hk : k < 2 ^ g.toNat) : popN k ≤ g.toNat := by
  have : (List.range 7).all (fun e => (List.range (2 ^ e)).all fun k => decide (popN k ≤ e)) = true := by kernel_rfl
  have h1 := List.all_eq_true.1 this g.toNat (List.mem_range.2 (by omega))
  exact of_decide_eq_true (List.all_eq_true.1 h1 k (List.mem_range.2 hk))
def tGw : Tab
  | [.ag [.i g, .sl .i64 l]] => some (True, .own 0, [.row .i64 3 (if famV g l = true then gwV g l (2 ^ g.toNat) else [])])
  | _ => none
theorem implGw_ok : Fits Try.prog 35 tGw := by
  refine ⟨callable_of Try.func35 (by kernel_rfl) rfl, ?_⟩
  intro args p out Ho h hp
  unfold tGw at h
  split at h <;> cases h
  rename_i g l
  refine ⟨acall_by (env_ok (env := [(59, tIsF), (67, tGr), (63, tSize), (61, tTraces)]) (by simp only [List.forall_mem_cons, List.not_mem_nil, false_implies, implies_true, and_true]; exact ⟨implIsF_ok, groundOf_ok, sizeOf_ok, traces_ok⟩)) Try.func35 rfl rfl rfl rfl rfl ?_, rfl, rfl⟩
  intro hlen c hc hX
  simp only [lensOk, AV.lenOk, true_and, and_true] at hlen
  simp only [Try.ntmps35, Try.results35, List.length_cons, List.length_nil, List.replicate, List.cons_append, List.nil_append, Nat.reduceAdd, Nat.reduceSub]
  cases hf : famV g l with
  | false =>
    rw [if_neg Bool.false_ne_true]
    repeat' first
      | ((with_reducible show aol _ _ _ _ _); first
          | (refine aol_guard_f (by rfl) ?_ ?_; (focus (simp only [go_sem]; done)))
          | (refine aol_guard_un (by rfl) ?_ ?_; (focus (simp only [go_sem]; done)))
          | (refine aol_guard_t (by rfl) ?_ ?_; (focus (simp only [go_sem]; done)); simp (config := { maxSteps := 2000000 }) (disch := omega) only [go_sem, ↓reduceIte, Nat.reduceEqDiff, Nat.reduceAdd, Nat.reduceLT, Nat.reduceLeDiff, Nat.reduceSub, tIsF, hf])
          | (refine aol_guard_b (by rfl) (by rfl) (fun h => ?_) (fun h => ?_) <;> (try simp only [Bool.and_eq_true, Bool.and_eq_false_iff, Bool.or_eq_true, Bool.or_eq_false_iff, List.all_cons, List.all_nil, Bool.and_true, beq_self_eq_true, beq_iff_eq, beq_eq_false_iff_ne, ne_eq, decide_true, decide_false, not_true_eq_false, not_false_eq_true, decide_eq_true_eq, decide_eq_false_iff_not, Bool.not_true, Bool.not_false, Bool.not_eq_true', Bool.not_eq_false', Int.not_le, Int.not_lt, reduceCtorEq, inR_iff, inR_not, isSet_iff, isSet_not] at h) <;> simp (config := { maxSteps := 2000000 }) (disch := omega) only [go_sem, ↓reduceIte, Nat.reduceEqDiff, Nat.reduceAdd, Nat.reduceLT, Nat.reduceLeDiff, Nat.reduceSub, tIsF, hf])
          | simp (config := { maxSteps := 2000000 }) (disch := omega) only [go_sem, ↓reduceIte, Nat.reduceEqDiff, Nat.reduceAdd, Nat.reduceLT, Nat.reduceLeDiff, Nat.reduceSub, tIsF, hf])
      | ((with_reducible refine hK _ ?_); clear hK K; try simp only [thn_n, blk_n, fin_n, finm_n])
      | (with_reducible refine awp_seq fun K hK => ?_)
      | ((with_reducible show Awp _ _ (Code.region _ _ _) _ _); first
          | (refine awp_regK (by repeat constructor) (fun K hK => ?_); simp (config := { maxSteps := 2000000 }) (disch := omega) only [go_sem, ↓reduceIte, Nat.reduceEqDiff, Nat.reduceAdd, Nat.reduceLT, Nat.reduceLeDiff, Nat.reduceSub, tIsF, hf])
          | (refine awp_drwK (by kernel_rfl) (by repeat constructor) (fun K hK => ?_); simp (config := { maxSteps := 2000000 }) (disch := omega) only [go_sem, ↓reduceIte, Nat.reduceEqDiff, Nat.reduceAdd, Nat.reduceLT, Nat.reduceLeDiff, Nat.reduceSub, tIsF, hf]))
      | ((with_reducible show Awp _ _ (Code.cond _ _ _) _ _); refine awp_cond rfl (fun h => ?_) (fun h => ?_) <;> (try simp only [Bool.and_eq_true, Bool.and_eq_false_iff, Bool.or_eq_true, Bool.or_eq_false_iff, List.all_cons, List.all_nil, Bool.and_true, beq_self_eq_true, beq_iff_eq, beq_eq_false_iff_ne, ne_eq, decide_true, decide_false, not_true_eq_false, not_false_eq_true, decide_eq_true_eq, decide_eq_false_iff_not, Bool.not_true, Bool.not_false, Bool.not_eq_true', Bool.not_eq_false', Int.not_le, Int.not_lt, reduceCtorEq, inR_iff, inR_not, isSet_iff, isSet_not] at h))
      | ((with_reducible refine awp_skip ?_); simp only [thn_n, blk_n, fin_n, finm_n])
      | ((with_reducible refine awp_ret ?_); simp only [thn_r, blk_r, fin_r, finm_r])
      | (with_reducible refine awp_block ?_)
      | ((with_reducible refine awp_exit ?_); simp only [thn_e, blk_e, blk_x, blk_n, thn_n, ne_eq, not_false_eq_true, Nat.reduceEqDiff, reduceCtorEq]; first | (refine hK _ ?_; clear hK K) | (clear hK K; refine hK _ ?_; clear hK K) | (clear hK K; clear hK K; refine hK _ ?_; clear hK K) | (clear hK K; clear hK K; clear hK K; refine hK _ ?_; clear hK K) | skip)
      | (with_reducible apply And.intro)
      | (with_reducible exact True.intro)
      | ((with_reducible show List.all _ _ = true); rfl)
      | ((with_reducible show lendOk _ _ = true); rfl)
      | omega
      | ((first | (with_reducible show ¬ _) | (with_reducible show _ → _)); intro h; first | contradiction | cases h; done | skip)
    all_goals (try (first | refine fin_keep ?_ | refine finm_keep ?_; repeat clear hK))
    exact fin_nl (by simp) rfl
  | true =>
    rw [if_pos rfl]
    have hl := famV_len hf
    have h01 := (famV_iff.1 hf).1
    have hpw := pow_nat g.toNat
    have hp6 := pow_le6 h01
    have hnn : (0 : Int) ≤ ((2 ^ g.toNat : Nat) : Int) := Int.natCast_nonneg _
    have hw : RowKit.wrap64 (2 ^ g.toNat) = 2 ^ g.toNat := wrap64_id (by omega) (by omega)
    repeat' first
      | ((with_reducible show aol _ _ _ _ _); first
          | (refine aol_guard_f (by rfl) ?_ ?_; (focus (simp only [go_sem]; done)))
          | (refine aol_guard_un (by rfl) ?_ ?_; (focus (simp only [go_sem]; done)))
          | (refine aol_guard_t (by rfl) ?_ ?_; (focus (simp only [go_sem]; done)); simp (config := { maxSteps := 2000000 }) (disch := omega) only [go_sem, ↓reduceIte, Nat.reduceEqDiff, Nat.reduceAdd, Nat.reduceLT, Nat.reduceLeDiff, Nat.reduceSub, tIsF, hf, tGr])
          | (refine aol_guard_b (by rfl) (by rfl) (fun h => ?_) (fun h => ?_) <;> (try simp only [Bool.and_eq_true, Bool.and_eq_false_iff, Bool.or_eq_true, Bool.or_eq_false_iff, List.all_cons, List.all_nil, Bool.and_true, beq_self_eq_true, beq_iff_eq, beq_eq_false_iff_ne, ne_eq, decide_true, decide_false, not_true_eq_false, not_false_eq_true, decide_eq_true_eq, decide_eq_false_iff_not, Bool.not_true, Bool.not_false, Bool.not_eq_true', Bool.not_eq_false', Int.not_le, Int.not_lt, reduceCtorEq, inR_iff, inR_not, isSet_iff, isSet_not] at h) <;> simp (config := { maxSteps := 2000000 }) (disch := omega) only [go_sem, ↓reduceIte, Nat.reduceEqDiff, Nat.reduceAdd, Nat.reduceLT, Nat.reduceLeDiff, Nat.reduceSub, tIsF, hf, tGr])
          | simp (config := { maxSteps := 2000000 }) (disch := omega) only [go_sem, ↓reduceIte, Nat.reduceEqDiff, Nat.reduceAdd, Nat.reduceLT, Nat.reduceLeDiff, Nat.reduceSub, tIsF, hf, tGr])
      | ((with_reducible refine hK _ ?_); clear hK K; try simp only [thn_n, blk_n, fin_n, finm_n])
      | (with_reducible refine awp_seq fun K hK => ?_)
      | ((with_reducible show Awp _ _ (Code.region _ _ _) _ _); first
          | (refine awp_regK (by repeat constructor) (fun K hK => ?_); simp (config := { maxSteps := 2000000 }) (disch := omega) only [go_sem, ↓reduceIte, Nat.reduceEqDiff, Nat.reduceAdd, Nat.reduceLT, Nat.reduceLeDiff, Nat.reduceSub, tIsF, hf, tGr])
          | (refine awp_drwK (by kernel_rfl) (by repeat constructor) (fun K hK => ?_); simp (config := { maxSteps := 2000000 }) (disch := omega) only [go_sem, ↓reduceIte, Nat.reduceEqDiff, Nat.reduceAdd, Nat.reduceLT, Nat.reduceLeDiff, Nat.reduceSub, tIsF, hf, tGr]))
      | ((with_reducible show Awp _ _ (Code.cond _ _ _) _ _); refine awp_cond rfl (fun h => ?_) (fun h => ?_) <;> (try simp only [Bool.and_eq_true, Bool.and_eq_false_iff, Bool.or_eq_true, Bool.or_eq_false_iff, List.all_cons, List.all_nil, Bool.and_true, beq_self_eq_true, beq_iff_eq, beq_eq_false_iff_ne, ne_eq, decide_true, decide_false, not_true_eq_false, not_false_eq_true, decide_eq_true_eq, decide_eq_false_iff_not, Bool.not_true, Bool.not_false, Bool.not_eq_true', Bool.not_eq_false', Int.not_le, Int.not_lt, reduceCtorEq, inR_iff, inR_not, isSet_iff, isSet_not] at h))
      | ((with_reducible refine awp_skip ?_); simp only [thn_n, blk_n, fin_n, finm_n])
      | ((with_reducible refine awp_ret ?_); simp only [thn_r, blk_r, fin_r, finm_r])
      | (with_reducible refine awp_block ?_)
      | ((with_reducible refine awp_exit ?_); simp only [thn_e, blk_e, blk_x, blk_n, thn_n, ne_eq, not_false_eq_true, Nat.reduceEqDiff, reduceCtorEq]; first | (refine hK _ ?_; clear hK K) | (clear hK K; refine hK _ ?_; clear hK K) | (clear hK K; clear hK K; refine hK _ ?_; clear hK K) | (clear hK K; clear hK K; clear hK K; refine hK _ ?_; clear hK K) | skip)
      | (with_reducible apply And.intro)
      | (with_reducible exact True.intro)
      | ((with_reducible show List.all _ _ = true); rfl)
      | ((with_reducible show lendOk _ _ = true); rfl)
      | omega
      | ((first | (with_reducible show ¬ _) | (with_reducible show _ → _)); intro h; first | contradiction | cases h; done | skip)
    all_goals (try (first | refine fin_keep ?_ | refine finm_keep ?_; repeat clear hK))
    refine awp_forR 0 hX (fun st (k : Nat) => st.at [1, 3, 15] [(16, .i k)] [.box 27 [.i g, .sl .i64 l], .row .i64 3 (gwV g l k)]) (fun k => k ≤ 2 ^ g.toNat) (fun k => 2 ^ g.toNat - k) 0 (Nat.zero_le _) ?_ ?_
    · exact ⟨[0, 1], rfl, rfl, by simp [-List.getD_eq_getElem?_getD, -List.length_take, List.getD_cons_zero, List.getD_cons_succ, leFr, ASt.at, keepFr, updAll, upd_zero, upd_succ, AV.rnb, AV.rnb0, gwV], by simp [-List.getD_eq_getElem?_getD, List.getD_cons_zero, List.getD_cons_succ, ASt.at, AO.rnb, AV.rnb0, upd_k0, upd_k1, upd_k2, upd_k3, gwV], rfl, rfl⟩
    rintro k hk
    simp only [ASt.at, keepFr, updAll, upd_zero, upd_succ, List.mem_cons, List.not_mem_nil, Nat.reduceEqDiff, Nat.reduceAdd, or_false, or_true, false_or, true_or, ↓reduceIte, eq_self]
    have hgl := gwV_len g l k
    have hpk : k < 2 ^ g.toNat → popN k ≤ g.toNat := pop_lt h01
    have tn : ((k : Int)).toNat = k := Int.toNat_natCast k
    have tp : ((popN k : Nat) : Int).toNat = popN k := Int.toNat_natCast _
    repeat' first
      | ((with_reducible show aol _ _ _ _ _); first
          | (refine aol_guard_f (by rfl) ?_ ?_; (focus (simp only [go_sem]; done)))
          | (refine aol_guard_un (by rfl) ?_ ?_; (focus (simp only [go_sem]; done)))
          | (refine aol_guard_t (by rfl) ?_ ?_; (focus (simp only [go_sem]; done)); simp (config := { maxSteps := 2000000 }) (disch := omega) only [go_sem, ↓reduceIte, Nat.reduceEqDiff, Nat.reduceAdd, Nat.reduceLT, Nat.reduceLeDiff, Nat.reduceSub, tSize, tTraces, tn, tp, Bool.false_eq_true])
          | (refine aol_guard_b (by rfl) (by rfl) (fun h => ?_) (fun h => ?_) <;> (try simp only [Bool.and_eq_true, Bool.and_eq_false_iff, Bool.or_eq_true, Bool.or_eq_false_iff, List.all_cons, List.all_nil, Bool.and_true, beq_self_eq_true, beq_iff_eq, beq_eq_false_iff_ne, ne_eq, decide_true, decide_false, not_true_eq_false, not_false_eq_true, decide_eq_true_eq, decide_eq_false_iff_not, Bool.not_true, Bool.not_false, Bool.not_eq_true', Bool.not_eq_false', Int.not_le, Int.not_lt, reduceCtorEq, inR_iff, inR_not, isSet_iff, isSet_not] at h) <;> simp (config := { maxSteps := 2000000 }) (disch := omega) only [go_sem, ↓reduceIte, Nat.reduceEqDiff, Nat.reduceAdd, Nat.reduceLT, Nat.reduceLeDiff, Nat.reduceSub, tSize, tTraces, tn, tp, Bool.false_eq_true])
          | simp (config := { maxSteps := 2000000 }) (disch := omega) only [go_sem, ↓reduceIte, Nat.reduceEqDiff, Nat.reduceAdd, Nat.reduceLT, Nat.reduceLeDiff, Nat.reduceSub, tSize, tTraces, tn, tp, Bool.false_eq_true])
      | ((with_reducible refine hK _ ?_); clear hK K; try simp only [thn_n, blk_n, fin_n, finm_n])
      | (with_reducible refine awp_seq fun K hK => ?_)
      | ((with_reducible show Awp _ _ (Code.region _ _ _) _ _); first
          | (refine awp_regK (by repeat constructor) (fun K hK => ?_); simp (config := { maxSteps := 2000000 }) (disch := omega) only [go_sem, ↓reduceIte, Nat.reduceEqDiff, Nat.reduceAdd, Nat.reduceLT, Nat.reduceLeDiff, Nat.reduceSub, tSize, tTraces, tn, tp, Bool.false_eq_true])
          | (refine awp_drwK (by kernel_rfl) (by repeat constructor) (fun K hK => ?_); simp (config := { maxSteps := 2000000 }) (disch := omega) only [go_sem, ↓reduceIte, Nat.reduceEqDiff, Nat.reduceAdd, Nat.reduceLT, Nat.reduceLeDiff, Nat.reduceSub, tSize, tTraces, tn, tp, Bool.false_eq_true]))
      | ((with_reducible show Awp _ _ (Code.cond _ _ _) _ _); refine awp_cond rfl (fun h => ?_) (fun h => ?_) <;> (try simp only [Bool.and_eq_true, Bool.and_eq_false_iff, Bool.or_eq_true, Bool.or_eq_false_iff, List.all_cons, List.all_nil, Bool.and_true, beq_self_eq_true, beq_iff_eq, beq_eq_false_iff_ne, ne_eq, decide_true, decide_false, not_true_eq_false, not_false_eq_true, decide_eq_true_eq, decide_eq_false_iff_not, Bool.not_true, Bool.not_false, Bool.not_eq_true', Bool.not_eq_false', Int.not_le, Int.not_lt, reduceCtorEq, inR_iff, inR_not, isSet_iff, isSet_not] at h))
      | ((with_reducible refine awp_skip ?_); simp only [thn_n, blk_n, fin_n, finm_n])
      | ((with_reducible refine awp_ret ?_); simp only [thn_r, blk_r, fin_r, finm_r])
      | (with_reducible refine awp_block ?_)
      | ((with_reducible refine awp_exit ?_); simp only [thn_e, blk_e, blk_x, blk_n, thn_n, ne_eq, not_false_eq_true, Nat.reduceEqDiff, reduceCtorEq]; first | (refine hK _ ?_; clear hK K) | (clear hK K; refine hK _ ?_; clear hK K) | (clear hK K; clear hK K; refine hK _ ?_; clear hK K) | (clear hK K; clear hK K; clear hK K; refine hK _ ?_; clear hK K) | skip)
      | (with_reducible apply And.intro)
      | (with_reducible exact True.intro)
      | ((with_reducible show List.all _ _ = true); rfl)
      | ((with_reducible show lendOk _ _ = true); rfl)
      | omega
      | ((first | (with_reducible show ¬ _) | (with_reducible show _ → _)); intro h; first | contradiction | cases h; done | skip)
    all_goals (try (first | refine fin_keep ?_ | refine finm_keep ?_; repeat clear hK))
    · refine ⟨k + 1, by omega, by omega, ?_⟩
      rw [show gwV g l (k + 1) = gwS l k (gwV g l k) from rfl, gwS]
      exact ⟨[0, 1], rfl, rfl, by simp [-List.getD_eq_getElem?_getD, -List.length_take, List.getD_cons_zero, List.getD_cons_succ, leFr, ASt.at, keepFr, updAll, upd_zero, upd_succ, AV.rnb, AV.rnb0, hw], by simp [-List.getD_eq_getElem?_getD, List.getD_cons_zero, List.getD_cons_succ, ASt.at, AO.rnb, AV.rnb0, upd_k0, upd_k1, upd_k2, upd_k3, hw], rfl, rfl⟩
    · obtain rfl : k = 2 ^ g.toNat := by omega
      exact fin_own rfl rfl
theorem specGw_ok : Fits Try.prog 34 tGw := by
  refine ⟨callable_of Try.func34 (by kernel_rfl) rfl, ?_⟩
  intro args p out Ho h hp
  unfold tGw at h
  split at h <;> cases h
  rename_i g l
  refine ⟨acall_by (env_ok (env := [(57, tIsF), (58, tL21), (62, tSize2)]) (by simp only [List.forall_mem_cons, List.not_mem_nil, false_implies, implies_true, and_true]; exact ⟨specIsF_ok, l21_ok, size2_ok⟩)) Try.func34 rfl rfl rfl rfl rfl ?_, rfl, rfl⟩
  intro hlen c hc hX
  simp only [lensOk, AV.lenOk, true_and, and_true] at hlen
  simp only [Try.ntmps34, Try.results34, List.length_cons, List.length_nil, List.replicate, List.cons_append, List.nil_append, Nat.reduceAdd, Nat.reduceSub]
  cases hf : famV g l with
  | false =>
    rw [if_neg Bool.false_ne_true]
    repeat' first
      | ((with_reducible show aol _ _ _ _ _); first
          | (refine aol_guard_f (by rfl) ?_ ?_; (focus (simp only [go_sem]; done)))
          | (refine aol_guard_un (by rfl) ?_ ?_; (focus (simp only [go_sem]; done)))
          | (refine aol_guard_t (by rfl) ?_ ?_; (focus (simp only [go_sem]; done)); simp (config := { maxSteps := 2000000 }) (disch := omega) only [go_sem, ↓reduceIte, Nat.reduceEqDiff, Nat.reduceAdd, Nat.reduceLT, Nat.reduceLeDiff, Nat.reduceSub, tIsF, hf])
          | (refine aol_guard_b (by rfl) (by rfl) (fun h => ?_) (fun h => ?_) <;> (try simp only [Bool.and_eq_true, Bool.and_eq_false_iff, Bool.or_eq_true, Bool.or_eq_false_iff, List.all_cons, List.all_nil, Bool.and_true, beq_self_eq_true, beq_iff_eq, beq_eq_false_iff_ne, ne_eq, decide_true, decide_false, not_true_eq_false, not_false_eq_true, decide_eq_true_eq, decide_eq_false_iff_not, Bool.not_true, Bool.not_false, Bool.not_eq_true', Bool.not_eq_false', Int.not_le, Int.not_lt, reduceCtorEq, inR_iff, inR_not, isSet_iff, isSet_not] at h) <;> simp (config := { maxSteps := 2000000 }) (disch := omega) only [go_sem, ↓reduceIte, Nat.reduceEqDiff, Nat.reduceAdd, Nat.reduceLT, Nat.reduceLeDiff, Nat.reduceSub, tIsF, hf])
          | simp (config := { maxSteps := 2000000 }) (disch := omega) only [go_sem, ↓reduceIte, Nat.reduceEqDiff, Nat.reduceAdd, Nat.reduceLT, Nat.reduceLeDiff, Nat.reduceSub, tIsF, hf])
      | ((with_reducible refine hK _ ?_); clear hK K; try simp only [thn_n, blk_n, fin_n, finm_n])
      | (with_reducible refine awp_seq fun K hK => ?_)
      | ((with_reducible show Awp _ _ (Code.region _ _ _) _ _); first
          | (refine awp_regK (by repeat constructor) (fun K hK => ?_); simp (config := { maxSteps := 2000000 }) (disch := omega) only [go_sem, ↓reduceIte, Nat.reduceEqDiff, Nat.reduceAdd, Nat.reduceLT, Nat.reduceLeDiff, Nat.reduceSub, tIsF, hf])
          | (refine awp_drwK (by kernel_rfl) (by repeat constructor) (fun K hK => ?_); simp (config := { maxSteps := 2000000 }) (disch := omega) only [go_sem, ↓reduceIte, Nat.reduceEqDiff, Nat.reduceAdd, Nat.reduceLT, Nat.reduceLeDiff, Nat.reduceSub, tIsF, hf]))
      | ((with_reducible show Awp _ _ (Code.cond _ _ _) _ _); refine awp_cond rfl (fun h => ?_) (fun h => ?_) <;> (try simp only [Bool.and_eq_true, Bool.and_eq_false_iff, Bool.or_eq_true, Bool.or_eq_false_iff, List.all_cons, List.all_nil, Bool.and_true, beq_self_eq_true, beq_iff_eq, beq_eq_false_iff_ne, ne_eq, decide_true, decide_false, not_true_eq_false, not_false_eq_true, decide_eq_true_eq, decide_eq_false_iff_not, Bool.not_true, Bool.not_false, Bool.not_eq_true', Bool.not_eq_false', Int.not_le, Int.not_lt, reduceCtorEq, inR_iff, inR_not, isSet_iff, isSet_not] at h))
      | ((with_reducible refine awp_skip ?_); simp only [thn_n, blk_n, fin_n, finm_n])
      | ((with_reducible refine awp_ret ?_); simp only [thn_r, blk_r, fin_r, finm_r])
      | (with_reducible refine awp_block ?_)
      | ((with_reducible refine awp_exit ?_); simp only [thn_e, blk_e, blk_x, blk_n, thn_n, ne_eq, not_false_eq_true, Nat.reduceEqDiff, reduceCtorEq]; first | (refine hK _ ?_; clear hK K) | (clear hK K; refine hK _ ?_; clear hK K) | (clear hK K; clear hK K; refine hK _ ?_; clear hK K) | (clear hK K; clear hK K; clear hK K; refine hK _ ?_; clear hK K) | skip)
      | (with_reducible apply And.intro)
      | (with_reducible exact True.intro)
      | ((with_reducible show List.all _ _ = true); rfl)
      | ((with_reducible show lendOk _ _ = true); rfl)
      | omega
      | ((first | (with_reducible show ¬ _) | (with_reducible show _ → _)); intro h; first | contradiction | cases h; done | skip)
    all_goals (try (first | refine fin_keep ?_ | refine finm_keep ?_; repeat clear hK))
    exact fin_own rfl rfl
  | true =>
    rw [if_pos rfl]
    have hl := famV_len hf
    have h01 := (famV_iff.1 hf).1
    have hpw := pow_nat g.toNat
    have hp6 := pow_le6 h01
    have hsh : ishl 1 g = 2 ^ g.toNat := ishl_one h01.1 (by omega)
    repeat' first
      | ((with_reducible show aol _ _ _ _ _); first
          | (refine aol_guard_f (by rfl) ?_ ?_; (focus (simp only [go_sem]; done)))
          | (refine aol_guard_un (by rfl) ?_ ?_; (focus (simp only [go_sem]; done)))
          | (refine aol_guard_t (by rfl) ?_ ?_; (focus (simp only [go_sem]; done)); simp (config := { maxSteps := 2000000 }) (disch := omega) only [go_sem, ↓reduceIte, Nat.reduceEqDiff, Nat.reduceAdd, Nat.reduceLT, Nat.reduceLeDiff, Nat.reduceSub, tIsF, hf])
          | (refine aol_guard_b (by rfl) (by rfl) (fun h => ?_) (fun h => ?_) <;> (try simp only [Bool.and_eq_true, Bool.and_eq_false_iff, Bool.or_eq_true, Bool.or_eq_false_iff, List.all_cons, List.all_nil, Bool.and_true, beq_self_eq_true, beq_iff_eq, beq_eq_false_iff_ne, ne_eq, decide_true, decide_false, not_true_eq_false, not_false_eq_true, decide_eq_true_eq, decide_eq_false_iff_not, Bool.not_true, Bool.not_false, Bool.not_eq_true', Bool.not_eq_false', Int.not_le, Int.not_lt, reduceCtorEq, inR_iff, inR_not, isSet_iff, isSet_not] at h) <;> simp (config := { maxSteps := 2000000 }) (disch := omega) only [go_sem, ↓reduceIte, Nat.reduceEqDiff, Nat.reduceAdd, Nat.reduceLT, Nat.reduceLeDiff, Nat.reduceSub, tIsF, hf])
          | simp (config := { maxSteps := 2000000 }) (disch := omega) only [go_sem, ↓reduceIte, Nat.reduceEqDiff, Nat.reduceAdd, Nat.reduceLT, Nat.reduceLeDiff, Nat.reduceSub, tIsF, hf])
      | ((with_reducible refine hK _ ?_); clear hK K; try simp only [thn_n, blk_n, fin_n, finm_n])
      | (with_reducible refine awp_seq fun K hK => ?_)
      | ((with_reducible show Awp _ _ (Code.region _ _ _) _ _); first
          | (refine awp_regK (by repeat constructor) (fun K hK => ?_); simp (config := { maxSteps := 2000000 }) (disch := omega) only [go_sem, ↓reduceIte, Nat.reduceEqDiff, Nat.reduceAdd, Nat.reduceLT, Nat.reduceLeDiff, Nat.reduceSub, tIsF, hf])
          | (refine awp_drwK (by kernel_rfl) (by repeat constructor) (fun K hK => ?_); simp (config := { maxSteps := 2000000 }) (disch := omega) only [go_sem, ↓reduceIte, Nat.reduceEqDiff, Nat.reduceAdd, Nat.reduceLT, Nat.reduceLeDiff, Nat.reduceSub, tIsF, hf]))
      | ((with_reducible show Awp _ _ (Code.cond _ _ _) _ _); refine awp_cond rfl (fun h => ?_) (fun h => ?_) <;> (try simp only [Bool.and_eq_true, Bool.and_eq_false_iff, Bool.or_eq_true, Bool.or_eq_false_iff, List.all_cons, List.all_nil, Bool.and_true, beq_self_eq_true, beq_iff_eq, beq_eq_false_iff_ne, ne_eq, decide_true, decide_false, not_true_eq_false, not_false_eq_true, decide_eq_true_eq, decide_eq_false_iff_not, Bool.not_true, Bool.not_false, Bool.not_eq_true', Bool.not_eq_false', Int.not_le, Int.not_lt, reduceCtorEq, inR_iff, inR_not, isSet_iff, isSet_not] at h))
      | ((with_reducible refine awp_skip ?_); simp only [thn_n, blk_n, fin_n, finm_n])
      | ((with_reducible refine awp_ret ?_); simp only [thn_r, blk_r, fin_r, finm_r])
      | (with_reducible refine awp_block ?_)
      | ((with_reducible refine awp_exit ?_); simp only [thn_e, blk_e, blk_x, blk_n, thn_n, ne_eq, not_false_eq_true, Nat.reduceEqDiff, reduceCtorEq]; first | (refine hK _ ?_; clear hK K) | (clear hK K; refine hK _ ?_; clear hK K) | (clear hK K; clear hK K; refine hK _ ?_; clear hK K) | (clear hK K; clear hK K; clear hK K; refine hK _ ?_; clear hK K) | skip)
      | (with_reducible apply And.intro)
      | (with_reducible exact True.intro)
      | ((with_reducible show List.all _ _ = true); rfl)
      | ((with_reducible show lendOk _ _ = true); rfl)
      | omega
      | ((first | (with_reducible show ¬ _) | (with_reducible show _ → _)); intro h; first | contradiction | cases h; done | skip)
    all_goals (try (first | refine fin_keep ?_ | refine finm_keep ?_; repeat clear hK))
    refine awp_forR 0 hX (fun st (k : Nat) => st.at [1, 3] [(4, .i k)] [.box 27 [.i g, .sl .i64 l], .row .i64 3 (gwV g l k)]) (fun k => k ≤ 2 ^ g.toNat) (fun k => 2 ^ g.toNat - k) 0 (Nat.zero_le _) ?_ ?_
    · exact ⟨[0, 1], rfl, rfl, by simp [-List.getD_eq_getElem?_getD, -List.length_take, List.getD_cons_zero, List.getD_cons_succ, leFr, ASt.at, keepFr, updAll, upd_zero, upd_succ, AV.rnb, AV.rnb0, gwV], by simp [-List.getD_eq_getElem?_getD, List.getD_cons_zero, List.getD_cons_succ, ASt.at, AO.rnb, AV.rnb0, upd_k0, upd_k1, upd_k2, upd_k3, gwV], rfl, rfl⟩
    rintro k hk
    simp only [ASt.at, keepFr, updAll, upd_zero, upd_succ, List.mem_cons, List.not_mem_nil, Nat.reduceEqDiff, Nat.reduceAdd, or_false, or_true, false_or, true_or, ↓reduceIte, eq_self]
    have hgl := gwV_len g l k
    have hpk : k < 2 ^ g.toNat → popN k ≤ g.toNat := pop_lt h01
    have tn : ((k : Int)).toNat = k := Int.toNat_natCast k
    have tp : ((popN k : Nat) : Int).toNat = popN k := Int.toNat_natCast _
    repeat' first
      | ((with_reducible show aol _ _ _ _ _); first
          | (refine aol_guard_f (by rfl) ?_ ?_; (focus (simp only [go_sem]; done)))
          | (refine aol_guard_un (by rfl) ?_ ?_; (focus (simp only [go_sem]; done)))
          | (refine aol_guard_t (by rfl) ?_ ?_; (focus (simp only [go_sem]; done)); simp (config := { maxSteps := 2000000 }) (disch := omega) only [go_sem, ↓reduceIte, Nat.reduceEqDiff, Nat.reduceAdd, Nat.reduceLT, Nat.reduceLeDiff, Nat.reduceSub, tSize2, tL21, tn, tp, hsh, Bool.false_eq_true])
          | (refine aol_guard_b (by rfl) (by rfl) (fun h => ?_) (fun h => ?_) <;> (try simp only [Bool.and_eq_true, Bool.and_eq_false_iff, Bool.or_eq_true, Bool.or_eq_false_iff, List.all_cons, List.all_nil, Bool.and_true, beq_self_eq_true, beq_iff_eq, beq_eq_false_iff_ne, ne_eq, decide_true, decide_false, not_true_eq_false, not_false_eq_true, decide_eq_true_eq, decide_eq_false_iff_not, Bool.not_true, Bool.not_false, Bool.not_eq_true', Bool.not_eq_false', Int.not_le, Int.not_lt, reduceCtorEq, inR_iff, inR_not, isSet_iff, isSet_not] at h) <;> simp (config := { maxSteps := 2000000 }) (disch := omega) only [go_sem, ↓reduceIte, Nat.reduceEqDiff, Nat.reduceAdd, Nat.reduceLT, Nat.reduceLeDiff, Nat.reduceSub, tSize2, tL21, tn, tp, hsh, Bool.false_eq_true])
          | simp (config := { maxSteps := 2000000 }) (disch := omega) only [go_sem, ↓reduceIte, Nat.reduceEqDiff, Nat.reduceAdd, Nat.reduceLT, Nat.reduceLeDiff, Nat.reduceSub, tSize2, tL21, tn, tp, hsh, Bool.false_eq_true])
      | ((with_reducible refine hK _ ?_); clear hK K; try simp only [thn_n, blk_n, fin_n, finm_n])
      | (with_reducible refine awp_seq fun K hK => ?_)
      | ((with_reducible show Awp _ _ (Code.region _ _ _) _ _); first
          | (refine awp_regK (by repeat constructor) (fun K hK => ?_); simp (config := { maxSteps := 2000000 }) (disch := omega) only [go_sem, ↓reduceIte, Nat.reduceEqDiff, Nat.reduceAdd, Nat.reduceLT, Nat.reduceLeDiff, Nat.reduceSub, tSize2, tL21, tn, tp, hsh, Bool.false_eq_true])
          | (refine awp_drwK (by kernel_rfl) (by repeat constructor) (fun K hK => ?_); simp (config := { maxSteps := 2000000 }) (disch := omega) only [go_sem, ↓reduceIte, Nat.reduceEqDiff, Nat.reduceAdd, Nat.reduceLT, Nat.reduceLeDiff, Nat.reduceSub, tSize2, tL21, tn, tp, hsh, Bool.false_eq_true]))
      | ((with_reducible show Awp _ _ (Code.cond _ _ _) _ _); refine awp_cond rfl (fun h => ?_) (fun h => ?_) <;> (try simp only [Bool.and_eq_true, Bool.and_eq_false_iff, Bool.or_eq_true, Bool.or_eq_false_iff, List.all_cons, List.all_nil, Bool.and_true, beq_self_eq_true, beq_iff_eq, beq_eq_false_iff_ne, ne_eq, decide_true, decide_false, not_true_eq_false, not_false_eq_true, decide_eq_true_eq, decide_eq_false_iff_not, Bool.not_true, Bool.not_false, Bool.not_eq_true', Bool.not_eq_false', Int.not_le, Int.not_lt, reduceCtorEq, inR_iff, inR_not, isSet_iff, isSet_not] at h))
      | ((with_reducible refine awp_skip ?_); simp only [thn_n, blk_n, fin_n, finm_n])
      | ((with_reducible refine awp_ret ?_); simp only [thn_r, blk_r, fin_r, finm_r])
      | (with_reducible refine awp_block ?_)
      | ((with_reducible refine awp_exit ?_); simp only [thn_e, blk_e, blk_x, blk_n, thn_n, ne_eq, not_false_eq_true, Nat.reduceEqDiff, reduceCtorEq]; first | (refine hK _ ?_; clear hK K) | (clear hK K; refine hK _ ?_; clear hK K) | (clear hK K; clear hK K; refine hK _ ?_; clear hK K) | (clear hK K; clear hK K; clear hK K; refine hK _ ?_; clear hK K) | skip)
      | (with_reducible apply And.intro)
      | (with_reducible exact True.intro)
      | ((with_reducible show List.all _ _ = true); rfl)
      | ((with_reducible show lendOk _ _ = true); rfl)
      | omega
      | ((first | (with_reducible show ¬ _) | (with_reducible show _ → _)); intro h; first | contradiction | cases h; done | skip)
    all_goals (try (first | refine fin_keep ?_ | refine finm_keep ?_; repeat clear hK))
    · refine ⟨k + 1, by omega, by omega, ?_⟩
      rw [show gwV g l (k + 1) = gwS l k (gwV g l k) from rfl, gwS]
      exact ⟨[0, 1], rfl, rfl, by simp [-List.getD_eq_getElem?_getD, -List.length_take, List.getD_cons_zero, List.getD_cons_succ, leFr, ASt.at, keepFr, updAll, upd_zero, upd_succ, AV.rnb, AV.rnb0], by simp [-List.getD_eq_getElem?_getD, List.getD_cons_zero, List.getD_cons_succ, ASt.at, AO.rnb, AV.rnb0, upd_k0, upd_k1, upd_k2, upd_k3], rfl, rfl⟩
    · obtain rfl : k = 2 ^ g.toNat := by omega
      exact fin_own rfl rfl
theorem exactGw_ok : Fits Try.prog 9 tTrueF := by
  refine ⟨callable_of Try.func9 (by kernel_rfl) rfl, ?_⟩
  intro args p out Ho h hp
  unfold tTrueF at h
  split at h <;> cases h
  rename_i g l
  refine ⟨acall_by (env_ok2 (env := [(26, tSzF), (28, tToFamily), (34, tGw), (35, tGw), (14, tEqF), (22, tEq), (36, tHeld)]) (envM := [(17, tMarkF), (25, tMark)]) (by simp only [List.forall_mem_cons, List.not_mem_nil, false_implies, implies_true, and_true]; exact ⟨szFamily_ok, toFamily_ok, specGw_ok, implGw_ok, eqFamily_ok, eqInts_ok, held_ok⟩) (by simp only [List.forall_mem_cons, List.not_mem_nil, false_implies, implies_true, and_true]; exact ⟨markF_ok, mark_ok⟩)) Try.func9 rfl rfl rfl rfl rfl ?_, rfl, rfl⟩
  intro hlen c hc hX
  simp only [lensOk, AV.lenOk, true_and, and_true] at hlen
  simp only [Try.ntmps9, Try.results9, List.length_cons, List.length_nil, List.replicate, List.cons_append, List.nil_append, Nat.reduceAdd, Nat.reduceSub]
  have hm : (if famV g l = true then gwV g l (2 ^ g.toNat) else []).length ≤ 64 := by
    split
    · rename_i hf; have := (famV_iff.1 hf).1; rw [gwV_len]; omega
    · simp
  repeat' first
    | ((with_reducible show aol _ _ _ _ _); first
        | (refine aol_guard_f (by rfl) ?_ ?_; (focus (simp only [go_sem]; done)))
        | (refine aol_guard_un (by rfl) ?_ ?_; (focus (simp only [go_sem]; done)))
        | (refine aol_guard_t (by rfl) ?_ ?_; (focus (simp only [go_sem]; done)); simp (config := { maxSteps := 2000000 }) (disch := omega) only [go_sem, ↓reduceIte, Nat.reduceEqDiff, Nat.reduceAdd, Nat.reduceLT, Nat.reduceLeDiff, Nat.reduceSub, tSzF, tToFamily, tGw, tEqF, tEq, tHeld, tMark, tMarkF, heldV_marks, marks_len])
        | (refine aol_guard_b (by rfl) (by rfl) (fun h => ?_) (fun h => ?_) <;> (try simp only [Bool.and_eq_true, Bool.and_eq_false_iff, Bool.or_eq_true, Bool.or_eq_false_iff, List.all_cons, List.all_nil, Bool.and_true, beq_self_eq_true, beq_iff_eq, beq_eq_false_iff_ne, ne_eq, decide_true, decide_false, not_true_eq_false, not_false_eq_true, decide_eq_true_eq, decide_eq_false_iff_not, Bool.not_true, Bool.not_false, Bool.not_eq_true', Bool.not_eq_false', Int.not_le, Int.not_lt, reduceCtorEq, inR_iff, inR_not, isSet_iff, isSet_not] at h) <;> simp (config := { maxSteps := 2000000 }) (disch := omega) only [go_sem, ↓reduceIte, Nat.reduceEqDiff, Nat.reduceAdd, Nat.reduceLT, Nat.reduceLeDiff, Nat.reduceSub, tSzF, tToFamily, tGw, tEqF, tEq, tHeld, tMark, tMarkF, heldV_marks, marks_len])
        | simp (config := { maxSteps := 2000000 }) (disch := omega) only [go_sem, ↓reduceIte, Nat.reduceEqDiff, Nat.reduceAdd, Nat.reduceLT, Nat.reduceLeDiff, Nat.reduceSub, tSzF, tToFamily, tGw, tEqF, tEq, tHeld, tMark, tMarkF, heldV_marks, marks_len])
    | ((with_reducible refine hK _ ?_); clear hK K; try simp only [thn_n, blk_n, fin_n, finm_n])
    | (with_reducible refine awp_seq fun K hK => ?_)
    | ((with_reducible show Awp _ _ (Code.region _ _ _) _ _); first
        | (refine awp_regK (by repeat constructor) (fun K hK => ?_); simp (config := { maxSteps := 2000000 }) (disch := omega) only [go_sem, ↓reduceIte, Nat.reduceEqDiff, Nat.reduceAdd, Nat.reduceLT, Nat.reduceLeDiff, Nat.reduceSub, tSzF, tToFamily, tGw, tEqF, tEq, tHeld, tMark, tMarkF, heldV_marks, marks_len])
        | (refine awp_drwK (by kernel_rfl) (by repeat constructor) (fun K hK => ?_); simp (config := { maxSteps := 2000000 }) (disch := omega) only [go_sem, ↓reduceIte, Nat.reduceEqDiff, Nat.reduceAdd, Nat.reduceLT, Nat.reduceLeDiff, Nat.reduceSub, tSzF, tToFamily, tGw, tEqF, tEq, tHeld, tMark, tMarkF, heldV_marks, marks_len]))
    | ((with_reducible show Awp _ _ (Code.cond _ _ _) _ _); refine awp_cond rfl (fun h => ?_) (fun h => ?_) <;> (try simp only [Bool.and_eq_true, Bool.and_eq_false_iff, Bool.or_eq_true, Bool.or_eq_false_iff, List.all_cons, List.all_nil, Bool.and_true, beq_self_eq_true, beq_iff_eq, beq_eq_false_iff_ne, ne_eq, decide_true, decide_false, not_true_eq_false, not_false_eq_true, decide_eq_true_eq, decide_eq_false_iff_not, Bool.not_true, Bool.not_false, Bool.not_eq_true', Bool.not_eq_false', Int.not_le, Int.not_lt, reduceCtorEq, inR_iff, inR_not, isSet_iff, isSet_not] at h))
    | ((with_reducible refine awp_skip ?_); simp only [thn_n, blk_n, fin_n, finm_n])
    | ((with_reducible refine awp_ret ?_); simp only [thn_r, blk_r, fin_r, finm_r])
    | (with_reducible refine awp_block ?_)
    | ((with_reducible refine awp_exit ?_); simp only [thn_e, blk_e, blk_x, blk_n, thn_n, ne_eq, not_false_eq_true, Nat.reduceEqDiff, reduceCtorEq]; first | (refine hK _ ?_; clear hK K) | (clear hK K; refine hK _ ?_; clear hK K) | (clear hK K; clear hK K; refine hK _ ?_; clear hK K) | (clear hK K; clear hK K; clear hK K; refine hK _ ?_; clear hK K) | skip)
    | (with_reducible apply And.intro)
    | (with_reducible exact True.intro)
    | ((with_reducible show List.all _ _ = true); rfl)
    | ((with_reducible show lendOk _ _ = true); rfl)
    | omega
    | ((first | (with_reducible show ¬ _) | (with_reducible show _ → _)); intro h; first | contradiction | cases h; done | skip)
  all_goals (try (first | refine fin_keep ?_ | refine finm_keep ?_; repeat clear hK))
  all_goals (refine fin_tmp rfl ?_; rfl)
end Go.Proofs.Ytdicihmhkglfhaa
