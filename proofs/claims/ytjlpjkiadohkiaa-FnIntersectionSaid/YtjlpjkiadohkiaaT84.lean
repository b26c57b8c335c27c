import Derived.Test.YtjlpjkiadohkiaaHs
import Derived.Test.YtjlpjkiadohkiaaT83
set_option linter.unusedSimpArgs false
set_option linter.unusedVariables false
set_option maxHeartbeats 2000000
namespace Go.Proofs.Ytjlpjkiadohkiaa
open Go Go.Ab
attribute [local irreducible] aol
attribute [local irreducible] popN


theorem fits_or {P : Program} {i : Nat} {A B C : Tab} (hA : Fits P i A) (hB : Fits P i B)
    (h : ∀ args p out Ho, C args = some (p, out, Ho) → p → (∃ p', A args = some (p', out, Ho) ∧ p') ∨ ∃ p', B args = some (p', out, Ho) ∧ p') : Fits P i C :=
  ⟨hA.1, fun args p out Ho h1 hp => by
    rcases h args p out Ho h1 hp with ⟨p', e, hp'⟩ | ⟨p', e, hp'⟩
    · exact hA.2 args p' out Ho e hp'
    · exact hB.2 args p' out Ho e hp'⟩
theorem fin_pp {C : Cfg} {t u : Tmp} {b1 b2 j1 j2 k1 k2 : Nat} {T T1 T2 : TypeId} {n1 n2 : Int} {d : TD} {Ho : List AO} {s : ASt} (σ : List Nat) (hT : C.Γ T = some d) (ha : d.agg = true) (hs : d.size = 2)
    (h1 : nth s.fr t = .bp b1 0) (h2 : nth s.fr u = .bp b2 0) (hb1 : s.hp[b1]? = some (.box T1 [.i n1, .own j1])) (hb2 : s.hp[b2]? = some (.box T2 [.i n2, .own j2])) (e1 : σ.getD k1 0 = j1) (e2 : σ.getD k2 0 = j2)
    (hn : nodupB σ = true) (h3 : σ.map (fun i => s.hp[i]?) = Ho.map (fun o => some (o.ren σ))) : FinS C [.cell t T, .cell u T] (.tu [.ag [.i n1, .own k1], .ag [.i n2, .own k2]]) Ho s :=
  ⟨s, Wk.refl s, (0 + 2 ≤ 2) ∧ (0 + 2 ≤ 2) ∧ True, .tu [.ag [.i n1, .own j1], .ag [.i n2, .own j2]], by simp [resV, resVs, resV1, aLoad, hT, ha, hs, h1, h2, hb1, hb2], ⟨by omega, by omega, trivial⟩, σ, nodupB_spec hn, by simp [AV.ren, AV.ren1, AV.ren0, ← e1, ← e2], h3⟩
theorem fin_ppi {C : Cfg} {t u v : Tmp} {b1 b2 j1 j2 k1 k2 : Nat} {T T1 T2 : TypeId} {n1 n2 x : Int} {d : TD} {Ho : List AO} {s : ASt} (σ : List Nat) (hT : C.Γ T = some d) (ha : d.agg = true) (hs : d.size = 2)
    (h1 : nth s.fr t = .bp b1 0) (h2 : nth s.fr u = .bp b2 0) (hb1 : s.hp[b1]? = some (.box T1 [.i n1, .own j1])) (hb2 : s.hp[b2]? = some (.box T2 [.i n2, .own j2])) (hv : nth s.fr v = .i x) (e1 : σ.getD k1 0 = j1) (e2 : σ.getD k2 0 = j2)
    (hn : nodupB σ = true) (h3 : σ.map (fun i => s.hp[i]?) = Ho.map (fun o => some (o.ren σ))) : FinS C [.cell t T, .cell u T, .tmp v] (.tu [.ag [.i n1, .own k1], .ag [.i n2, .own k2], .i x]) Ho s :=
  ⟨s, Wk.refl s, (0 + 2 ≤ 2) ∧ (0 + 2 ≤ 2) ∧ True ∧ True, .tu [.ag [.i n1, .own j1], .ag [.i n2, .own j2], .i x], by simp [resV, resVs, resV1, aLoad, hT, ha, hs, h1, h2, hb1, hb2, hv], ⟨by omega, by omega, trivial, trivial⟩, σ, nodupB_spec hn, by simp [AV.ren, AV.ren1, AV.ren0, ← e1, ← e2], h3⟩
def tBtY : Tab
  | [.sl .u8 b] => some ((btR b).isSome = true ∧ b.length ≤ 1048576, .tu [.ag [.i (drMat b), .own 0], .ag [.i (drMat b), .own 1]], [.row .i64 3 (drMaL b), .row .i64 3 (btL b)])
  | _ => none
def tBtN : Tab
  | [.sl .u8 b] => some ((btR b).isSome = false ∧ b.length ≤ 1048576, .tu [.ag [.i (drMat b), .own 0], .ag [.i (drMat b), .own 0]], [.row .i64 3 (drMaL b)])
  | _ => none
theorem btY_ok : Fits Try.prog 114 tBtY := by
  refine ⟨callable_of Try.func114 (by kernel_rfl) rfl, ?_⟩
  intro args p out Ho h hp
  unfold tBtY at h
  split at h <;> cases h
  rename_i b
  refine ⟨acall_by (env_ok2 (env := []) (envM := [(131, tNew), (130, t17)]) (by simp) (by simp only [List.forall_mem_cons, List.not_mem_nil, false_implies, implies_true, and_true]; exact ⟨new_ok, r17_ok⟩)) Try.func114 rfl rfl rfl rfl rfl ?_, rfl, rfl⟩
  intro hlen c hc hX
  simp only [lensOk, AV.lenOk, true_and, and_true] at hlen
  simp only [Try.ntmps114, Try.results114, List.length_cons, List.length_nil, List.replicate, List.cons_append, List.nil_append, Nat.reduceAdd, Nat.reduceSub]
  obtain ⟨hsome, hb⟩ := hp
  have hl := r17L_len b (newV b)
  obtain ⟨N, hN⟩ : ∃ N, r17N b (newV b) = N := ⟨_, rfl⟩
  obtain ⟨L, hL⟩ : ∃ L, r17L b (newV b) = L := ⟨_, rfl⟩
  have fN : drMat b = N := hN
  have fL : drMaL b = L := hL
  rw [fN, fL]
  rw [hL] at hl
  repeat' first | ((with_reducible show aol _ _ _ _ _); first | (refine aol_guard_f (by rfl) ?_ ?_; (focus (simp only [go_sem]; done))) | (refine aol_guard_un (by rfl) ?_ ?_; (focus (simp only [go_sem]; done)))) | ((with_reducible refine hK _ ?_); clear hK K; try simp only [nxA, nxB]) | (with_reducible refine awp_seq fun K hK => ?_) | ((first | ((with_reducible show aol _ _ _ _ _); try first | (refine aol_guard_t (by rfl) ?_ ?_; (focus (simp only [go_sem]; done))) | (refine aol_guard_b (by rfl) (by rfl) (fun h => ?_) (fun h => ?_) <;> (try simp only [hsA, hsB, hsC, hsD, hsE, List.all_cons, List.all_nil, ne_eq, reduceCtorEq] at h))) | ((with_reducible show Awp _ _ (Code.region _ _ _) _ _); first | refine awp_regK (by repeat constructor) (fun K hK => ?_) | (refine awp_drwK (by kernel_rfl) (by repeat constructor) (fun K hK => ?_)))) <;> simp (config := { maxSteps := 2000000 }) (disch := omega) only [go_sem, ↓reduceIte, Nat.reduceEqDiff, Nat.reduceAdd, Nat.reduceLT, Nat.reduceLeDiff, Nat.reduceSub, tNew, t17, pr_eta, hN, hL]) | ((with_reducible show Awp _ _ (Code.cond _ _ _) _ _); refine awp_cond rfl (fun h => ?_) (fun h => ?_) <;> (try simp only [hsA, hsB, hsC, hsD, hsE, List.all_cons, List.all_nil, ne_eq, reduceCtorEq] at h)) | ((with_reducible first | refine awp_skip ?_ | refine awp_ret ?_); simp only [nxA, nxB]) | (with_reducible refine awp_block ?_) | ((with_reducible refine awp_exit ?_); simp only [nxA, ne_eq, not_false_eq_true, Nat.reduceEqDiff, reduceCtorEq]; try ((first | refine hK _ ?_ | (clear hK K; first | refine hK _ ?_ | (clear hK K; first | refine hK _ ?_ | (clear hK K; refine hK _ ?_)))); clear hK K)) | (with_reducible first | apply And.intro | exact True.intro) | ((with_reducible first | show List.all _ _ = true | show lendOk _ _ = true); rfl) | omega | ((with_reducible first | show ¬ _ | show _ → _); intro h; first | contradiction | cases h; done | skip)
  all_goals (try (first | refine fin_keep ?_ | refine finm_keep ?_; repeat clear hK))
  refine awp_forR 0 hX (fun st (x : Nat × (Nat × Int)) => st.at [2, 3, 4, 5] [(6, .i x.1)] [.box 26 [.i 0, .nl], .box 26 [.i 0, .nl], .box 135 [.sl .u8 b, .i (x.2.1 : Int), .i x.2.2], .row .i64 3 L, .box 26 [.i N, .own 3]])
    (fun x => x.1 ≤ 6 ∧ btD b N (6 - x.1) x.2 = btR b) (fun x => 6 - x.1) (0, r17S b (newV b)) ⟨Nat.zero_le _, by unfold btR; rw [fN]; rfl⟩ ?_ ?_
  · exact ⟨[0, 1, 2, 3, 4], rfl, rfl, by simp [-List.getD_eq_getElem?_getD, -List.length_take, List.getD_cons_zero, List.getD_cons_succ, leFr, ASt.at, keepFr, updAll, upd_zero, upd_succ, AV.rnb, AV.rnb0], by simp [-List.getD_eq_getElem?_getD, List.getD_cons_zero, List.getD_cons_succ, ASt.at, AO.rnb, AV.rnb0, upd_k0, upd_k1, upd_k2, upd_k3], rfl, rfl⟩
  rintro ⟨k, s⟩ ⟨hk, hd⟩
  simp only [ASt.at, keepFr, updAll, upd_zero, upd_succ, List.mem_cons, List.not_mem_nil, Nat.reduceEqDiff, Nat.reduceAdd, or_false, or_true, false_or, true_or, ↓reduceIte, eq_self]
  have hk' : k ≤ 6 := hk
  have hd' : btD b N (6 - k) s = btR b := hd
  have hl2 := r17L_len b s
  by_cases hkl : k < 6
  · rw [show 6 - k = (6 - (k + 1)) + 1 by omega] at hd'
    unfold btD at hd'
    by_cases hc : r17N b s = N
    · rw [if_pos hc] at hd'
      have eB : btL b = r17L b s := by unfold btL; rw [← hd']; rfl
      rw [eB]
      repeat' first | ((with_reducible show aol _ _ _ _ _); first | (refine aol_guard_f (by rfl) ?_ ?_; (focus (simp only [go_sem]; done))) | (refine aol_guard_un (by rfl) ?_ ?_; (focus (simp only [go_sem]; done)))) | ((with_reducible refine hK _ ?_); clear hK K; try simp only [nxA, nxB]) | (with_reducible refine awp_seq fun K hK => ?_) | ((with_reducible show Awp _ _ (Code.region 8 _ true) _ _); (refine awp_ordersK [[0, 1, 2, 3], [0, 2, 1, 3], [1, 0, 2, 3]] (by kernel_rfl) (by kernel_rfl) (by repeat constructor) (fun K hK => ?_); simp only [Alls, and_true]; (repeat' apply And.intro) <;> (refine ⟨_, by repeat constructor, ?_⟩; simp (config := { maxSteps := 2000000 }) (disch := omega) only [go_sem, ↓reduceIte, Nat.reduceEqDiff, Nat.reduceAdd, Nat.reduceLT, Nat.reduceLeDiff, Nat.reduceSub, t17, pr_eta, hc]))) | ((with_reducible show Awp _ _ (Code.region 9 _ true) _ _); (refine awp_ordersK [[0, 1, 2, 3], [0, 2, 1, 3], [1, 0, 2, 3]] (by kernel_rfl) (by kernel_rfl) (by repeat constructor) (fun K hK => ?_); simp only [Alls, and_true]; (repeat' apply And.intro) <;> (refine ⟨_, by repeat constructor, ?_⟩; simp (config := { maxSteps := 2000000 }) (disch := omega) only [go_sem, ↓reduceIte, Nat.reduceEqDiff, Nat.reduceAdd, Nat.reduceLT, Nat.reduceLeDiff, Nat.reduceSub, t17, pr_eta, hc]))) | ((first | ((with_reducible show aol _ _ _ _ _); try first | (refine aol_guard_t (by rfl) ?_ ?_; (focus (simp only [go_sem]; done))) | (refine aol_guard_b (by rfl) (by rfl) (fun h => ?_) (fun h => ?_) <;> (try simp only [hsA, hsB, hsC, hsD, hsE, List.all_cons, List.all_nil, ne_eq, reduceCtorEq] at h))) | ((with_reducible show Awp _ _ (Code.region _ _ _) _ _); first | refine awp_regK (by repeat constructor) (fun K hK => ?_) | (refine awp_drwK (by kernel_rfl) (by repeat constructor) (fun K hK => ?_)))) <;> simp (config := { maxSteps := 2000000 }) (disch := omega) only [go_sem, ↓reduceIte, Nat.reduceEqDiff, Nat.reduceAdd, Nat.reduceLT, Nat.reduceLeDiff, Nat.reduceSub, t17, pr_eta, hc]) | ((with_reducible show Awp _ _ (Code.cond _ _ _) _ _); refine awp_cond rfl (fun h => ?_) (fun h => ?_) <;> (try simp only [hsA, hsB, hsC, hsD, hsE, List.all_cons, List.all_nil, ne_eq, reduceCtorEq] at h)) | ((with_reducible first | refine awp_skip ?_ | refine awp_ret ?_); simp only [nxA, nxB]) | (with_reducible refine awp_block ?_) | ((with_reducible refine awp_exit ?_); simp only [nxA, ne_eq, not_false_eq_true, Nat.reduceEqDiff, reduceCtorEq]; try ((first | refine hK _ ?_ | (clear hK K; first | refine hK _ ?_ | (clear hK K; first | refine hK _ ?_ | (clear hK K; refine hK _ ?_)))); clear hK K)) | (with_reducible first | apply And.intro | exact True.intro) | ((with_reducible first | show List.all _ _ = true | show lendOk _ _ = true); rfl) | omega | ((with_reducible first | show ¬ _ | show _ → _); intro h; first | contradiction | cases h; done | skip)
      all_goals (try (first | refine fin_keep ?_ | refine finm_keep ?_; repeat clear hK))
      all_goals exact fin_pp (d := tPair) [3, 5] rfl rfl rfl rfl rfl rfl rfl rfl rfl rfl rfl
    · rw [if_neg hc] at hd'
      repeat' first | ((with_reducible show aol _ _ _ _ _); first | (refine aol_guard_f (by rfl) ?_ ?_; (focus (simp only [go_sem]; done))) | (refine aol_guard_un (by rfl) ?_ ?_; (focus (simp only [go_sem]; done)))) | ((with_reducible refine hK _ ?_); clear hK K; try simp only [nxA, nxB]) | (with_reducible refine awp_seq fun K hK => ?_) | ((with_reducible show Awp _ _ (Code.region 8 _ true) _ _); (refine awp_ordersK [[0, 1, 2, 3], [0, 2, 1, 3], [1, 0, 2, 3]] (by kernel_rfl) (by kernel_rfl) (by repeat constructor) (fun K hK => ?_); simp only [Alls, and_true]; (repeat' apply And.intro) <;> (refine ⟨_, by repeat constructor, ?_⟩; simp (config := { maxSteps := 2000000 }) (disch := omega) only [go_sem, ↓reduceIte, Nat.reduceEqDiff, Nat.reduceAdd, Nat.reduceLT, Nat.reduceLeDiff, Nat.reduceSub, t17, pr_eta, hc]))) | ((with_reducible show Awp _ _ (Code.region 9 _ true) _ _); (refine awp_ordersK [[0, 1, 2, 3], [0, 2, 1, 3], [1, 0, 2, 3]] (by kernel_rfl) (by kernel_rfl) (by repeat constructor) (fun K hK => ?_); simp only [Alls, and_true]; (repeat' apply And.intro) <;> (refine ⟨_, by repeat constructor, ?_⟩; simp (config := { maxSteps := 2000000 }) (disch := omega) only [go_sem, ↓reduceIte, Nat.reduceEqDiff, Nat.reduceAdd, Nat.reduceLT, Nat.reduceLeDiff, Nat.reduceSub, t17, pr_eta, hc]))) | ((first | ((with_reducible show aol _ _ _ _ _); try first | (refine aol_guard_t (by rfl) ?_ ?_; (focus (simp only [go_sem]; done))) | (refine aol_guard_b (by rfl) (by rfl) (fun h => ?_) (fun h => ?_) <;> (try simp only [hsA, hsB, hsC, hsD, hsE, List.all_cons, List.all_nil, ne_eq, reduceCtorEq] at h))) | ((with_reducible show Awp _ _ (Code.region _ _ _) _ _); first | refine awp_regK (by repeat constructor) (fun K hK => ?_) | (refine awp_drwK (by kernel_rfl) (by repeat constructor) (fun K hK => ?_)))) <;> simp (config := { maxSteps := 2000000 }) (disch := omega) only [go_sem, ↓reduceIte, Nat.reduceEqDiff, Nat.reduceAdd, Nat.reduceLT, Nat.reduceLeDiff, Nat.reduceSub, t17, pr_eta, hc]) | ((with_reducible show Awp _ _ (Code.cond _ _ _) _ _); refine awp_cond rfl (fun h => ?_) (fun h => ?_) <;> (try simp only [hsA, hsB, hsC, hsD, hsE, List.all_cons, List.all_nil, ne_eq, reduceCtorEq] at h)) | ((with_reducible first | refine awp_skip ?_ | refine awp_ret ?_); simp only [nxA, nxB]) | (with_reducible refine awp_block ?_) | ((with_reducible refine awp_exit ?_); simp only [nxA, ne_eq, not_false_eq_true, Nat.reduceEqDiff, reduceCtorEq]; try ((first | refine hK _ ?_ | (clear hK K; first | refine hK _ ?_ | (clear hK K; first | refine hK _ ?_ | (clear hK K; refine hK _ ?_)))); clear hK K)) | (with_reducible first | apply And.intro | exact True.intro) | ((with_reducible first | show List.all _ _ = true | show lendOk _ _ = true); rfl) | omega | ((with_reducible first | show ¬ _ | show _ → _); intro h; first | contradiction | cases h; done | skip)
      all_goals (try (first | refine fin_keep ?_ | refine finm_keep ?_; repeat clear hK))
      refine ⟨(k + 1, r17S b s), ⟨by show k + 1 ≤ 6; omega, hd'⟩, by show 6 - (k + 1) < 6 - k; omega, ?_⟩
      exact ⟨[0, 1, 2, 3, 4], rfl, rfl, by simp [-List.getD_eq_getElem?_getD, -List.length_take, List.getD_cons_zero, List.getD_cons_succ, leFr, ASt.at, keepFr, updAll, upd_zero, upd_succ, AV.rnb, AV.rnb0], by simp [-List.getD_eq_getElem?_getD, List.getD_cons_zero, List.getD_cons_succ, ASt.at, AO.rnb, AV.rnb0, upd_k0, upd_k1, upd_k2, upd_k3], rfl, rfl⟩
  · obtain rfl : k = 6 := by omega
    rw [← hd'] at hsome
    cases hsome
theorem btN_ok : Fits Try.prog 114 tBtN := by
  refine ⟨callable_of Try.func114 (by kernel_rfl) rfl, ?_⟩
  intro args p out Ho h hp
  unfold tBtN at h
  split at h <;> cases h
  rename_i b
  refine ⟨acall_by (env_ok2 (env := []) (envM := [(131, tNew), (130, t17)]) (by simp) (by simp only [List.forall_mem_cons, List.not_mem_nil, false_implies, implies_true, and_true]; exact ⟨new_ok, r17_ok⟩)) Try.func114 rfl rfl rfl rfl rfl ?_, rfl, rfl⟩
  intro hlen c hc hX
  simp only [lensOk, AV.lenOk, true_and, and_true] at hlen
  simp only [Try.ntmps114, Try.results114, List.length_cons, List.length_nil, List.replicate, List.cons_append, List.nil_append, Nat.reduceAdd, Nat.reduceSub]
  obtain ⟨hsome, hb⟩ := hp
  have hl := r17L_len b (newV b)
  obtain ⟨N, hN⟩ : ∃ N, r17N b (newV b) = N := ⟨_, rfl⟩
  obtain ⟨L, hL⟩ : ∃ L, r17L b (newV b) = L := ⟨_, rfl⟩
  have fN : drMat b = N := hN
  have fL : drMaL b = L := hL
  rw [fN, fL]
  rw [hL] at hl
  repeat' first | ((with_reducible show aol _ _ _ _ _); first | (refine aol_guard_f (by rfl) ?_ ?_; (focus (simp only [go_sem]; done))) | (refine aol_guard_un (by rfl) ?_ ?_; (focus (simp only [go_sem]; done)))) | ((with_reducible refine hK _ ?_); clear hK K; try simp only [nxA, nxB]) | (with_reducible refine awp_seq fun K hK => ?_) | ((first | ((with_reducible show aol _ _ _ _ _); try first | (refine aol_guard_t (by rfl) ?_ ?_; (focus (simp only [go_sem]; done))) | (refine aol_guard_b (by rfl) (by rfl) (fun h => ?_) (fun h => ?_) <;> (try simp only [hsA, hsB, hsC, hsD, hsE, List.all_cons, List.all_nil, ne_eq, reduceCtorEq] at h))) | ((with_reducible show Awp _ _ (Code.region _ _ _) _ _); first | refine awp_regK (by repeat constructor) (fun K hK => ?_) | (refine awp_drwK (by kernel_rfl) (by repeat constructor) (fun K hK => ?_)))) <;> simp (config := { maxSteps := 2000000 }) (disch := omega) only [go_sem, ↓reduceIte, Nat.reduceEqDiff, Nat.reduceAdd, Nat.reduceLT, Nat.reduceLeDiff, Nat.reduceSub, tNew, t17, pr_eta, hN, hL]) | ((with_reducible show Awp _ _ (Code.cond _ _ _) _ _); refine awp_cond rfl (fun h => ?_) (fun h => ?_) <;> (try simp only [hsA, hsB, hsC, hsD, hsE, List.all_cons, List.all_nil, ne_eq, reduceCtorEq] at h)) | ((with_reducible first | refine awp_skip ?_ | refine awp_ret ?_); simp only [nxA, nxB]) | (with_reducible refine awp_block ?_) | ((with_reducible refine awp_exit ?_); simp only [nxA, ne_eq, not_false_eq_true, Nat.reduceEqDiff, reduceCtorEq]; try ((first | refine hK _ ?_ | (clear hK K; first | refine hK _ ?_ | (clear hK K; first | refine hK _ ?_ | (clear hK K; refine hK _ ?_)))); clear hK K)) | (with_reducible first | apply And.intro | exact True.intro) | ((with_reducible first | show List.all _ _ = true | show lendOk _ _ = true); rfl) | omega | ((with_reducible first | show ¬ _ | show _ → _); intro h; first | contradiction | cases h; done | skip)
  all_goals (try (first | refine fin_keep ?_ | refine finm_keep ?_; repeat clear hK))
  refine awp_forR 0 hX (fun st (x : Nat × (Nat × Int)) => st.at [2, 3, 4, 5] [(6, .i x.1)] [.box 26 [.i 0, .nl], .box 26 [.i 0, .nl], .box 135 [.sl .u8 b, .i (x.2.1 : Int), .i x.2.2], .row .i64 3 L, .box 26 [.i N, .own 3]])
    (fun x => x.1 ≤ 6 ∧ btD b N (6 - x.1) x.2 = btR b) (fun x => 6 - x.1) (0, r17S b (newV b)) ⟨Nat.zero_le _, by unfold btR; rw [fN]; rfl⟩ ?_ ?_
  · exact ⟨[0, 1, 2, 3, 4], rfl, rfl, by simp [-List.getD_eq_getElem?_getD, -List.length_take, List.getD_cons_zero, List.getD_cons_succ, leFr, ASt.at, keepFr, updAll, upd_zero, upd_succ, AV.rnb, AV.rnb0], by simp [-List.getD_eq_getElem?_getD, List.getD_cons_zero, List.getD_cons_succ, ASt.at, AO.rnb, AV.rnb0, upd_k0, upd_k1, upd_k2, upd_k3], rfl, rfl⟩
  rintro ⟨k, s⟩ ⟨hk, hd⟩
  simp only [ASt.at, keepFr, updAll, upd_zero, upd_succ, List.mem_cons, List.not_mem_nil, Nat.reduceEqDiff, Nat.reduceAdd, or_false, or_true, false_or, true_or, ↓reduceIte, eq_self]
  have hk' : k ≤ 6 := hk
  have hd' : btD b N (6 - k) s = btR b := hd
  have hl2 := r17L_len b s
  by_cases hkl : k < 6
  · rw [show 6 - k = (6 - (k + 1)) + 1 by omega] at hd'
    unfold btD at hd'
    by_cases hc : r17N b s = N
    · rw [if_pos hc] at hd'
      rw [← hd'] at hsome
      cases hsome
    · rw [if_neg hc] at hd'
      repeat' first | ((with_reducible show aol _ _ _ _ _); first | (refine aol_guard_f (by rfl) ?_ ?_; (focus (simp only [go_sem]; done))) | (refine aol_guard_un (by rfl) ?_ ?_; (focus (simp only [go_sem]; done)))) | ((with_reducible refine hK _ ?_); clear hK K; try simp only [nxA, nxB]) | (with_reducible refine awp_seq fun K hK => ?_) | ((with_reducible show Awp _ _ (Code.region 8 _ true) _ _); (refine awp_ordersK [[0, 1, 2, 3], [0, 2, 1, 3], [1, 0, 2, 3]] (by kernel_rfl) (by kernel_rfl) (by repeat constructor) (fun K hK => ?_); simp only [Alls, and_true]; (repeat' apply And.intro) <;> (refine ⟨_, by repeat constructor, ?_⟩; simp (config := { maxSteps := 2000000 }) (disch := omega) only [go_sem, ↓reduceIte, Nat.reduceEqDiff, Nat.reduceAdd, Nat.reduceLT, Nat.reduceLeDiff, Nat.reduceSub, t17, pr_eta, hc]))) | ((with_reducible show Awp _ _ (Code.region 9 _ true) _ _); (refine awp_ordersK [[0, 1, 2, 3], [0, 2, 1, 3], [1, 0, 2, 3]] (by kernel_rfl) (by kernel_rfl) (by repeat constructor) (fun K hK => ?_); simp only [Alls, and_true]; (repeat' apply And.intro) <;> (refine ⟨_, by repeat constructor, ?_⟩; simp (config := { maxSteps := 2000000 }) (disch := omega) only [go_sem, ↓reduceIte, Nat.reduceEqDiff, Nat.reduceAdd, Nat.reduceLT, Nat.reduceLeDiff, Nat.reduceSub, t17, pr_eta, hc]))) | ((first | ((with_reducible show aol _ _ _ _ _); try first | (refine aol_guard_t (by rfl) ?_ ?_; (focus (simp only [go_sem]; done))) | (refine aol_guard_b (by rfl) (by rfl) (fun h => ?_) (fun h => ?_) <;> (try simp only [hsA, hsB, hsC, hsD, hsE, List.all_cons, List.all_nil, ne_eq, reduceCtorEq] at h))) | ((with_reducible show Awp _ _ (Code.region _ _ _) _ _); first | refine awp_regK (by repeat constructor) (fun K hK => ?_) | (refine awp_drwK (by kernel_rfl) (by repeat constructor) (fun K hK => ?_)))) <;> simp (config := { maxSteps := 2000000 }) (disch := omega) only [go_sem, ↓reduceIte, Nat.reduceEqDiff, Nat.reduceAdd, Nat.reduceLT, Nat.reduceLeDiff, Nat.reduceSub, t17, pr_eta, hc]) | ((with_reducible show Awp _ _ (Code.cond _ _ _) _ _); refine awp_cond rfl (fun h => ?_) (fun h => ?_) <;> (try simp only [hsA, hsB, hsC, hsD, hsE, List.all_cons, List.all_nil, ne_eq, reduceCtorEq] at h)) | ((with_reducible first | refine awp_skip ?_ | refine awp_ret ?_); simp only [nxA, nxB]) | (with_reducible refine awp_block ?_) | ((with_reducible refine awp_exit ?_); simp only [nxA, ne_eq, not_false_eq_true, Nat.reduceEqDiff, reduceCtorEq]; try ((first | refine hK _ ?_ | (clear hK K; first | refine hK _ ?_ | (clear hK K; first | refine hK _ ?_ | (clear hK K; refine hK _ ?_)))); clear hK K)) | (with_reducible first | apply And.intro | exact True.intro) | ((with_reducible first | show List.all _ _ = true | show lendOk _ _ = true); rfl) | omega | ((with_reducible first | show ¬ _ | show _ → _); intro h; first | contradiction | cases h; done | skip)
      all_goals (try (first | refine fin_keep ?_ | refine finm_keep ?_; repeat clear hK))
      refine ⟨(k + 1, r17S b s), ⟨by show k + 1 ≤ 6; omega, hd'⟩, by show 6 - (k + 1) < 6 - k; omega, ?_⟩
      exact ⟨[0, 1, 2, 3, 4], rfl, rfl, by simp [-List.getD_eq_getElem?_getD, -List.length_take, List.getD_cons_zero, List.getD_cons_succ, leFr, ASt.at, keepFr, updAll, upd_zero, upd_succ, AV.rnb, AV.rnb0], by simp [-List.getD_eq_getElem?_getD, List.getD_cons_zero, List.getD_cons_succ, ASt.at, AO.rnb, AV.rnb0, upd_k0, upd_k1, upd_k2, upd_k3], rfl, rfl⟩
  · obtain rfl : k = 6 := by omega
    repeat' first | ((with_reducible show aol _ _ _ _ _); first | (refine aol_guard_f (by rfl) ?_ ?_; (focus (simp only [go_sem]; done))) | (refine aol_guard_un (by rfl) ?_ ?_; (focus (simp only [go_sem]; done)))) | ((with_reducible refine hK _ ?_); clear hK K; try simp only [nxA, nxB]) | (with_reducible refine awp_seq fun K hK => ?_) | ((with_reducible show Awp _ _ (Code.region 8 _ true) _ _); (refine awp_ordersK [[0, 1, 2, 3], [0, 2, 1, 3], [1, 0, 2, 3]] (by kernel_rfl) (by kernel_rfl) (by repeat constructor) (fun K hK => ?_); simp only [Alls, and_true]; (repeat' apply And.intro) <;> (refine ⟨_, by repeat constructor, ?_⟩; simp (config := { maxSteps := 2000000 }) (disch := omega) only [go_sem, ↓reduceIte, Nat.reduceEqDiff, Nat.reduceAdd, Nat.reduceLT, Nat.reduceLeDiff, Nat.reduceSub]))) | ((with_reducible show Awp _ _ (Code.region 9 _ true) _ _); (refine awp_ordersK [[0, 1, 2, 3], [0, 2, 1, 3], [1, 0, 2, 3]] (by kernel_rfl) (by kernel_rfl) (by repeat constructor) (fun K hK => ?_); simp only [Alls, and_true]; (repeat' apply And.intro) <;> (refine ⟨_, by repeat constructor, ?_⟩; simp (config := { maxSteps := 2000000 }) (disch := omega) only [go_sem, ↓reduceIte, Nat.reduceEqDiff, Nat.reduceAdd, Nat.reduceLT, Nat.reduceLeDiff, Nat.reduceSub]))) | ((first | ((with_reducible show aol _ _ _ _ _); try first | (refine aol_guard_t (by rfl) ?_ ?_; (focus (simp only [go_sem]; done))) | (refine aol_guard_b (by rfl) (by rfl) (fun h => ?_) (fun h => ?_) <;> (try simp only [hsA, hsB, hsC, hsD, hsE, List.all_cons, List.all_nil, ne_eq, reduceCtorEq] at h))) | ((with_reducible show Awp _ _ (Code.region _ _ _) _ _); first | refine awp_regK (by repeat constructor) (fun K hK => ?_) | (refine awp_drwK (by kernel_rfl) (by repeat constructor) (fun K hK => ?_)))) <;> simp (config := { maxSteps := 2000000 }) (disch := omega) only [go_sem, ↓reduceIte, Nat.reduceEqDiff, Nat.reduceAdd, Nat.reduceLT, Nat.reduceLeDiff, Nat.reduceSub]) | ((with_reducible show Awp _ _ (Code.cond _ _ _) _ _); refine awp_cond rfl (fun h => ?_) (fun h => ?_) <;> (try simp only [hsA, hsB, hsC, hsD, hsE, List.all_cons, List.all_nil, ne_eq, reduceCtorEq] at h)) | ((with_reducible first | refine awp_skip ?_ | refine awp_ret ?_); simp only [nxA, nxB]) | (with_reducible refine awp_block ?_) | ((with_reducible refine awp_exit ?_); simp only [nxA, ne_eq, not_false_eq_true, Nat.reduceEqDiff, reduceCtorEq]; try ((first | refine hK _ ?_ | (clear hK K; first | refine hK _ ?_ | (clear hK K; first | refine hK _ ?_ | (clear hK K; refine hK _ ?_)))); clear hK K)) | (with_reducible first | apply And.intro | exact True.intro) | ((with_reducible first | show List.all _ _ = true | show lendOk _ _ = true); rfl) | omega | ((with_reducible first | show ¬ _ | show _ → _); intro h; first | contradiction | cases h; done | skip)
    all_goals (try (first | refine fin_keep ?_ | refine finm_keep ?_; repeat clear hK))
    all_goals exact fin_pp (d := tPair) [3] rfl rfl rfl rfl rfl rfl rfl rfl rfl rfl rfl
theorem bt_by {args : List AV} {p : Prop} {out : AV} {Ho : List AO} (h : tBt args = some (p, out, Ho)) (hp : p) : (∃ p', tBtY args = some (p', out, Ho) ∧ p') ∨ ∃ p', tBtN args = some (p', out, Ho) ∧ p' := by
  unfold tBt at h
  split at h
  · split at h <;> cases h <;> rename_i hc
    · exact .inl ⟨_, rfl, hc, hp⟩
    · exact .inr ⟨_, rfl, Bool.eq_false_iff.2 hc, hp⟩
  · cases h
theorem bt_ok : Fits Try.prog 114 tBt := fits_or btY_ok btN_ok fun _ _ _ _ h hp => bt_by h hp
theorem btL_len (b : List Int) : (btL b).length ≤ 64 := by
  unfold btL
  cases h : btR b with
  | none => exact r17L_len b _
  | some l => exact btD_len b _ _ _ _ h
theorem drMaL_len (b : List Int) : (drMaL b).length ≤ 64 := r17L_len b _
def psX (b : List Int) : Int := (b.length : Int).tmod 17 - 1
def tPsY : Tab
  | [.sl .u8 b] => some ((btR b).isSome = true ∧ b.length ≤ 1048576, .tu [.ag [.i (drMat b), .own 0], .ag [.i (drMat b), .own 1], .i (psX b)], [.row .i64 3 (drMaL b), .row .i64 3 (btL b)])
  | _ => none
def tPsN : Tab
  | [.sl .u8 b] => some ((btR b).isSome = false ∧ b.length ≤ 1048576, .tu [.ag [.i (drMat b), .own 0], .ag [.i (drMat b), .own 0], .i (psX b)], [.row .i64 3 (drMaL b)])
  | _ => none
def tPs : Tab
  | [.sl .u8 b] => if (btR b).isSome = true then some (b.length ≤ 1048576, .tu [.ag [.i (drMat b), .own 0], .ag [.i (drMat b), .own 1], .i (psX b)], [.row .i64 3 (drMaL b), .row .i64 3 (btL b)])
      else some (b.length ≤ 1048576, .tu [.ag [.i (drMat b), .own 0], .ag [.i (drMat b), .own 0], .i (psX b)], [.row .i64 3 (drMaL b)])
  | _ => none
theorem tPs_yes {b : List Int} (h : (btR b).isSome = true) : tPs [.sl .u8 b] = some (b.length ≤ 1048576, .tu [.ag [.i (drMat b), .own 0], .ag [.i (drMat b), .own 1], .i (psX b)], [.row .i64 3 (drMaL b), .row .i64 3 (btL b)]) := if_pos h
theorem tPs_no {b : List Int} (h : (btR b).isSome = false) : tPs [.sl .u8 b] = some (b.length ≤ 1048576, .tu [.ag [.i (drMat b), .own 0], .ag [.i (drMat b), .own 0], .i (psX b)], [.row .i64 3 (drMaL b)]) := if_neg (by rw [h]; decide)
theorem ps_by {args : List AV} {p : Prop} {out : AV} {Ho : List AO} (h : tPs args = some (p, out, Ho)) (hp : p) : (∃ p', tPsY args = some (p', out, Ho) ∧ p') ∨ ∃ p', tPsN args = some (p', out, Ho) ∧ p' := by
  unfold tPs at h
  split at h
  · split at h <;> cases h <;> rename_i hc
    · exact .inl ⟨_, rfl, hc, hp⟩
    · exact .inr ⟨_, rfl, Bool.eq_false_iff.2 hc, hp⟩
  · cases h
end Go.Proofs.Ytjlpjkiadohkiaa
