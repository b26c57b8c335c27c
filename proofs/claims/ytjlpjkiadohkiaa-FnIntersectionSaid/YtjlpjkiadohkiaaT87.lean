import Derived.Test.YtjlpjkiadohkiaaT84
import Derived.Test.YtjlpjkiadohkiaaHs
import Derived.Test.YtjlpjkiadohkiaaT86
set_option linter.unusedSimpArgs false
set_option linter.unusedVariables false
set_option maxHeartbeats 2000000
namespace Go.Proofs.Ytjlpjkiadohkiaa
open Go Go.Ab
attribute [local irreducible] aol
attribute [local irreducible] popN


theorem drLcY_ok : Fits Try.prog 26 tBtY := by
  refine ⟨callable_of Try.func26 (by kernel_rfl) rfl, ?_⟩
  intro args p out Ho h hp
  unfold tBtY at h
  split at h <;> cases h
  rename_i b
  refine ⟨acall_by (env_ok (env := [(114, tBt)]) (by simp only [List.forall_mem_cons, List.not_mem_nil, false_implies, implies_true, and_true]; exact bt_ok)) Try.func26 rfl rfl rfl rfl rfl ?_, rfl, rfl⟩
  intro hlen c hc hX
  simp only [lensOk, AV.lenOk, true_and, and_true] at hlen
  simp only [Try.ntmps26, Try.results26, List.length_cons, List.length_nil, List.replicate, List.cons_append, List.nil_append, Nat.reduceAdd, Nat.reduceSub]
  obtain ⟨hsome, hb⟩ := hp
  have e := tBt_yes hsome
  have h1 := drMaL_len b
  have h2 := btL_len b
  repeat' first | ((with_reducible show aol _ _ _ _ _); first | (refine aol_guard_f (by rfl) ?_ ?_; (focus (simp only [go_sem]; done))) | (refine aol_guard_un (by rfl) ?_ ?_; (focus (simp only [go_sem]; done)))) | ((with_reducible refine hK _ ?_); clear hK K; try simp only [nxA, nxB]) | (with_reducible refine awp_seq fun K hK => ?_) | ((with_reducible show Awp _ _ (Code.region 2 _ true) _ _); (refine awp_ordersK [[0, 1, 2, 3], [0, 2, 1, 3], [1, 0, 2, 3]] (by kernel_rfl) (by kernel_rfl) (by repeat constructor) (fun K hK => ?_); simp only [Alls, and_true]; (repeat' apply And.intro) <;> (refine ⟨_, by repeat constructor, ?_⟩; simp (config := { maxSteps := 2000000 }) (disch := omega) only [go_sem, ↓reduceIte, Nat.reduceEqDiff, Nat.reduceAdd, Nat.reduceLT, Nat.reduceLeDiff, Nat.reduceSub, e, after_row2]))) | ((first | ((with_reducible show aol _ _ _ _ _); try first | (refine aol_guard_t (by rfl) ?_ ?_; (focus (simp only [go_sem]; done))) | (refine aol_guard_b (by rfl) (by rfl) (fun h => ?_) (fun h => ?_) <;> (try simp only [hsA, hsB, hsC, hsD, hsE, List.all_cons, List.all_nil, ne_eq, reduceCtorEq] at h))) | ((with_reducible show Awp _ _ (Code.region _ _ _) _ _); first | refine awp_regK (by repeat constructor) (fun K hK => ?_) | (refine awp_drwK (by kernel_rfl) (by repeat constructor) (fun K hK => ?_)))) <;> simp (config := { maxSteps := 2000000 }) (disch := omega) only [go_sem, ↓reduceIte, Nat.reduceEqDiff, Nat.reduceAdd, Nat.reduceLT, Nat.reduceLeDiff, Nat.reduceSub, e, after_row2]) | ((with_reducible show Awp _ _ (Code.cond _ _ _) _ _); refine awp_cond rfl (fun h => ?_) (fun h => ?_) <;> (try simp only [hsA, hsB, hsC, hsD, hsE, List.all_cons, List.all_nil, ne_eq, reduceCtorEq] at h)) | ((with_reducible first | refine awp_skip ?_ | refine awp_ret ?_); simp only [nxA, nxB]) | (with_reducible refine awp_block ?_) | ((with_reducible refine awp_exit ?_); simp only [nxA, ne_eq, not_false_eq_true, Nat.reduceEqDiff, reduceCtorEq]; try ((first | refine hK _ ?_ | (clear hK K; first | refine hK _ ?_ | (clear hK K; first | refine hK _ ?_ | (clear hK K; refine hK _ ?_)))); clear hK K)) | (with_reducible first | apply And.intro | exact True.intro) | ((with_reducible first | show List.all _ _ = true | show lendOk _ _ = true); rfl) | omega | ((with_reducible first | show ¬ _ | show _ → _); intro h; first | contradiction | cases h; done | skip)
  all_goals (try (first | refine fin_keep ?_ | refine finm_keep ?_; repeat clear hK))
  all_goals exact fin_pp (d := tPair) [2, 3] rfl rfl rfl rfl rfl rfl rfl rfl rfl rfl rfl
theorem drLcN_ok : Fits Try.prog 26 tBtN := by
  refine ⟨callable_of Try.func26 (by kernel_rfl) rfl, ?_⟩
  intro args p out Ho h hp
  unfold tBtN at h
  split at h <;> cases h
  rename_i b
  refine ⟨acall_by (env_ok (env := [(114, tBt)]) (by simp only [List.forall_mem_cons, List.not_mem_nil, false_implies, implies_true, and_true]; exact bt_ok)) Try.func26 rfl rfl rfl rfl rfl ?_, rfl, rfl⟩
  intro hlen c hc hX
  simp only [lensOk, AV.lenOk, true_and, and_true] at hlen
  simp only [Try.ntmps26, Try.results26, List.length_cons, List.length_nil, List.replicate, List.cons_append, List.nil_append, Nat.reduceAdd, Nat.reduceSub]
  obtain ⟨hsome, hb⟩ := hp
  have e := tBt_no hsome
  have h1 := drMaL_len b
  repeat' first | ((with_reducible show aol _ _ _ _ _); first | (refine aol_guard_f (by rfl) ?_ ?_; (focus (simp only [go_sem]; done))) | (refine aol_guard_un (by rfl) ?_ ?_; (focus (simp only [go_sem]; done)))) | ((with_reducible refine hK _ ?_); clear hK K; try simp only [nxA, nxB]) | (with_reducible refine awp_seq fun K hK => ?_) | ((with_reducible show Awp _ _ (Code.region 2 _ true) _ _); (refine awp_ordersK [[0, 1, 2, 3], [0, 2, 1, 3], [1, 0, 2, 3]] (by kernel_rfl) (by kernel_rfl) (by repeat constructor) (fun K hK => ?_); simp only [Alls, and_true]; (repeat' apply And.intro) <;> (refine ⟨_, by repeat constructor, ?_⟩; simp (config := { maxSteps := 2000000 }) (disch := omega) only [go_sem, ↓reduceIte, Nat.reduceEqDiff, Nat.reduceAdd, Nat.reduceLT, Nat.reduceLeDiff, Nat.reduceSub, e]))) | ((first | ((with_reducible show aol _ _ _ _ _); try first | (refine aol_guard_t (by rfl) ?_ ?_; (focus (simp only [go_sem]; done))) | (refine aol_guard_b (by rfl) (by rfl) (fun h => ?_) (fun h => ?_) <;> (try simp only [hsA, hsB, hsC, hsD, hsE, List.all_cons, List.all_nil, ne_eq, reduceCtorEq] at h))) | ((with_reducible show Awp _ _ (Code.region _ _ _) _ _); first | refine awp_regK (by repeat constructor) (fun K hK => ?_) | (refine awp_drwK (by kernel_rfl) (by repeat constructor) (fun K hK => ?_)))) <;> simp (config := { maxSteps := 2000000 }) (disch := omega) only [go_sem, ↓reduceIte, Nat.reduceEqDiff, Nat.reduceAdd, Nat.reduceLT, Nat.reduceLeDiff, Nat.reduceSub, e]) | ((with_reducible show Awp _ _ (Code.cond _ _ _) _ _); refine awp_cond rfl (fun h => ?_) (fun h => ?_) <;> (try simp only [hsA, hsB, hsC, hsD, hsE, List.all_cons, List.all_nil, ne_eq, reduceCtorEq] at h)) | ((with_reducible first | refine awp_skip ?_ | refine awp_ret ?_); simp only [nxA, nxB]) | (with_reducible refine awp_block ?_) | ((with_reducible refine awp_exit ?_); simp only [nxA, ne_eq, not_false_eq_true, Nat.reduceEqDiff, reduceCtorEq]; try ((first | refine hK _ ?_ | (clear hK K; first | refine hK _ ?_ | (clear hK K; first | refine hK _ ?_ | (clear hK K; refine hK _ ?_)))); clear hK K)) | (with_reducible first | apply And.intro | exact True.intro) | ((with_reducible first | show List.all _ _ = true | show lendOk _ _ = true); rfl) | omega | ((with_reducible first | show ¬ _ | show _ → _); intro h; first | contradiction | cases h; done | skip)
  all_goals (try (first | refine fin_keep ?_ | refine finm_keep ?_; repeat clear hK))
  all_goals exact fin_pp (d := tPair) [2] rfl rfl rfl rfl rfl rfl rfl rfl rfl rfl rfl
theorem drLc_ok : Fits Try.prog 26 tBt := fits_or drLcY_ok drLcN_ok fun _ _ _ _ h hp => bt_by h hp
theorem psX_bd (b : List Int) : -1 ≤ psX b ∧ psX b < 17 := by
  have h1 := Int.tmod_nonneg 17 (Int.natCast_nonneg b.length)
  have h2 := Int.tmod_lt_of_pos (b.length : Int) (show (0 : Int) < 17 by omega)
  unfold psX; omega
theorem drIcY_ok : Fits Try.prog 43 tPsY := by
  refine ⟨callable_of Try.func43 (by kernel_rfl) rfl, ?_⟩
  intro args p out Ho h hp
  unfold tPsY at h
  split at h <;> cases h
  rename_i b
  refine ⟨acall_by (env_ok (env := [(114, tBt)]) (by simp only [List.forall_mem_cons, List.not_mem_nil, false_implies, implies_true, and_true]; exact bt_ok)) Try.func43 rfl rfl rfl rfl rfl ?_, rfl, rfl⟩
  intro hlen c hc hX
  simp only [lensOk, AV.lenOk, true_and, and_true] at hlen
  simp only [Try.ntmps43, Try.results43, List.length_cons, List.length_nil, List.replicate, List.cons_append, List.nil_append, Nat.reduceAdd, Nat.reduceSub]
  obtain ⟨hsome, hb⟩ := hp
  have e := tBt_yes hsome
  have h1 := drMaL_len b
  have h2 := btL_len b
  have hX1 : (b.length : Int).tmod 17 - 1 = psX b := rfl
  have hX2 := psX_bd b
  repeat' first | ((with_reducible show aol _ _ _ _ _); first | (refine aol_guard_f (by rfl) ?_ ?_; (focus (simp only [go_sem]; done))) | (refine aol_guard_un (by rfl) ?_ ?_; (focus (simp only [go_sem]; done)))) | ((with_reducible refine hK _ ?_); clear hK K; try simp only [nxA, nxB]) | (with_reducible refine awp_seq fun K hK => ?_) | ((with_reducible show Awp _ _ (Code.region 2 _ true) _ _); (refine awp_ordersK [[2, 0, 1, 3, 4, 5, 6, 7, 8], [2, 0, 1, 6, 3, 4, 5, 7, 8], [2, 0, 1, 6, 7, 3, 4, 5, 8], [2, 0, 3, 4, 5, 1, 6, 7, 8], [2, 0, 3, 4, 5, 6, 1, 7, 8], [2, 0, 6, 1, 3, 4, 5, 7, 8], [2, 0, 6, 1, 7, 3, 4, 5, 8], [2, 0, 6, 3, 4, 5, 1, 7, 8], [2, 1, 0, 3, 4, 5, 6, 7, 8], [2, 1, 0, 6, 3, 4, 5, 7, 8], [2, 1, 0, 6, 7, 3, 4, 5, 8], [2, 1, 3, 4, 5, 0, 6, 7, 8], [2, 3, 4, 5, 0, 1, 6, 7, 8], [2, 3, 4, 5, 0, 6, 1, 7, 8], [2, 3, 4, 5, 1, 0, 6, 7, 8]] (by kernel_rfl) (by kernel_rfl) (by repeat constructor) (fun K hK => ?_); simp only [Alls, and_true]; (repeat' apply And.intro) <;> (refine ⟨_, by repeat constructor, ?_⟩; simp (config := { maxSteps := 2000000 }) (disch := omega) only [go_sem, ↓reduceIte, Nat.reduceEqDiff, Nat.reduceAdd, Nat.reduceLT, Nat.reduceLeDiff, Nat.reduceSub, e, hX1, after_row2]))) | ((first | ((with_reducible show aol _ _ _ _ _); try first | (refine aol_guard_t (by rfl) ?_ ?_; (focus (simp only [go_sem]; done))) | (refine aol_guard_b (by rfl) (by rfl) (fun h => ?_) (fun h => ?_) <;> (try simp only [hsA, hsB, hsC, hsD, hsE, List.all_cons, List.all_nil, ne_eq, reduceCtorEq] at h))) | ((with_reducible show Awp _ _ (Code.region _ _ _) _ _); first | refine awp_regK (by repeat constructor) (fun K hK => ?_) | (refine awp_drwK (by kernel_rfl) (by repeat constructor) (fun K hK => ?_)))) <;> simp (config := { maxSteps := 2000000 }) (disch := omega) only [go_sem, ↓reduceIte, Nat.reduceEqDiff, Nat.reduceAdd, Nat.reduceLT, Nat.reduceLeDiff, Nat.reduceSub, e, hX1, after_row2]) | ((with_reducible show Awp _ _ (Code.cond _ _ _) _ _); refine awp_cond rfl (fun h => ?_) (fun h => ?_) <;> (try simp only [hsA, hsB, hsC, hsD, hsE, List.all_cons, List.all_nil, ne_eq, reduceCtorEq] at h)) | ((with_reducible first | refine awp_skip ?_ | refine awp_ret ?_); simp only [nxA, nxB]) | (with_reducible refine awp_block ?_) | ((with_reducible refine awp_exit ?_); simp only [nxA, ne_eq, not_false_eq_true, Nat.reduceEqDiff, reduceCtorEq]; try ((first | refine hK _ ?_ | (clear hK K; first | refine hK _ ?_ | (clear hK K; first | refine hK _ ?_ | (clear hK K; refine hK _ ?_)))); clear hK K)) | (with_reducible first | apply And.intro | exact True.intro) | ((with_reducible first | show List.all _ _ = true | show lendOk _ _ = true); rfl) | omega | ((with_reducible first | show ¬ _ | show _ → _); intro h; first | contradiction | cases h; done | skip)
  all_goals (try (first | refine fin_keep ?_ | refine finm_keep ?_; repeat clear hK))
  all_goals exact fin_ppi (d := tPair) [2, 3] rfl rfl rfl rfl rfl rfl rfl rfl rfl rfl rfl rfl
theorem drIcN_ok : Fits Try.prog 43 tPsN := by
  refine ⟨callable_of Try.func43 (by kernel_rfl) rfl, ?_⟩
  intro args p out Ho h hp
  unfold tPsN at h
  split at h <;> cases h
  rename_i b
  refine ⟨acall_by (env_ok (env := [(114, tBt)]) (by simp only [List.forall_mem_cons, List.not_mem_nil, false_implies, implies_true, and_true]; exact bt_ok)) Try.func43 rfl rfl rfl rfl rfl ?_, rfl, rfl⟩
  intro hlen c hc hX
  simp only [lensOk, AV.lenOk, true_and, and_true] at hlen
  simp only [Try.ntmps43, Try.results43, List.length_cons, List.length_nil, List.replicate, List.cons_append, List.nil_append, Nat.reduceAdd, Nat.reduceSub]
  obtain ⟨hsome, hb⟩ := hp
  have e := tBt_no hsome
  have h1 := drMaL_len b
  have hX1 : (b.length : Int).tmod 17 - 1 = psX b := rfl
  have hX2 := psX_bd b
  repeat' first | ((with_reducible show aol _ _ _ _ _); first | (refine aol_guard_f (by rfl) ?_ ?_; (focus (simp only [go_sem]; done))) | (refine aol_guard_un (by rfl) ?_ ?_; (focus (simp only [go_sem]; done)))) | ((with_reducible refine hK _ ?_); clear hK K; try simp only [nxA, nxB]) | (with_reducible refine awp_seq fun K hK => ?_) | ((with_reducible show Awp _ _ (Code.region 2 _ true) _ _); (refine awp_ordersK [[2, 0, 1, 3, 4, 5, 6, 7, 8], [2, 0, 1, 6, 3, 4, 5, 7, 8], [2, 0, 1, 6, 7, 3, 4, 5, 8], [2, 0, 3, 4, 5, 1, 6, 7, 8], [2, 0, 3, 4, 5, 6, 1, 7, 8], [2, 0, 6, 1, 3, 4, 5, 7, 8], [2, 0, 6, 1, 7, 3, 4, 5, 8], [2, 0, 6, 3, 4, 5, 1, 7, 8], [2, 1, 0, 3, 4, 5, 6, 7, 8], [2, 1, 0, 6, 3, 4, 5, 7, 8], [2, 1, 0, 6, 7, 3, 4, 5, 8], [2, 1, 3, 4, 5, 0, 6, 7, 8], [2, 3, 4, 5, 0, 1, 6, 7, 8], [2, 3, 4, 5, 0, 6, 1, 7, 8], [2, 3, 4, 5, 1, 0, 6, 7, 8]] (by kernel_rfl) (by kernel_rfl) (by repeat constructor) (fun K hK => ?_); simp only [Alls, and_true]; (repeat' apply And.intro) <;> (refine ⟨_, by repeat constructor, ?_⟩; simp (config := { maxSteps := 2000000 }) (disch := omega) only [go_sem, ↓reduceIte, Nat.reduceEqDiff, Nat.reduceAdd, Nat.reduceLT, Nat.reduceLeDiff, Nat.reduceSub, e, hX1]))) | ((first | ((with_reducible show aol _ _ _ _ _); try first | (refine aol_guard_t (by rfl) ?_ ?_; (focus (simp only [go_sem]; done))) | (refine aol_guard_b (by rfl) (by rfl) (fun h => ?_) (fun h => ?_) <;> (try simp only [hsA, hsB, hsC, hsD, hsE, List.all_cons, List.all_nil, ne_eq, reduceCtorEq] at h))) | ((with_reducible show Awp _ _ (Code.region _ _ _) _ _); first | refine awp_regK (by repeat constructor) (fun K hK => ?_) | (refine awp_drwK (by kernel_rfl) (by repeat constructor) (fun K hK => ?_)))) <;> simp (config := { maxSteps := 2000000 }) (disch := omega) only [go_sem, ↓reduceIte, Nat.reduceEqDiff, Nat.reduceAdd, Nat.reduceLT, Nat.reduceLeDiff, Nat.reduceSub, e, hX1]) | ((with_reducible show Awp _ _ (Code.cond _ _ _) _ _); refine awp_cond rfl (fun h => ?_) (fun h => ?_) <;> (try simp only [hsA, hsB, hsC, hsD, hsE, List.all_cons, List.all_nil, ne_eq, reduceCtorEq] at h)) | ((with_reducible first | refine awp_skip ?_ | refine awp_ret ?_); simp only [nxA, nxB]) | (with_reducible refine awp_block ?_) | ((with_reducible refine awp_exit ?_); simp only [nxA, ne_eq, not_false_eq_true, Nat.reduceEqDiff, reduceCtorEq]; try ((first | refine hK _ ?_ | (clear hK K; first | refine hK _ ?_ | (clear hK K; first | refine hK _ ?_ | (clear hK K; refine hK _ ?_)))); clear hK K)) | (with_reducible first | apply And.intro | exact True.intro) | ((with_reducible first | show List.all _ _ = true | show lendOk _ _ = true); rfl) | omega | ((with_reducible first | show ¬ _ | show _ → _); intro h; first | contradiction | cases h; done | skip)
  all_goals (try (first | refine fin_keep ?_ | refine finm_keep ?_; repeat clear hK))
  all_goals exact fin_ppi (d := tPair) [2] rfl rfl rfl rfl rfl rfl rfl rfl rfl rfl rfl rfl
theorem drIc_ok : Fits Try.prog 43 tPs := fits_or drIcY_ok drIcN_ok fun _ _ _ _ h hp => ps_by h hp
def twT (b : List Int) : Nat × Int := l2AS b (newV b)
def twN (b : List Int) : Int := l2AN b (twT b)
def twG (b : List Int) : List Int := l2AL b (twT b)
def twS (b : List Int) : Nat × Int := l2AS b (twT b)
def twB (b : List Int) : Bool := fnV (anN b) (anL b) && fnV (twN b) (twG b)
def twO (b : List Int) : Bool := twB b && !onceX b 5 (twS b)
def twF (g : List Int) (s : Int) : Int := g.getD (s.toNat % g.length) 0
def twM (b : List Int) : Int := if twO b = true then anN b else twN b
def twL (b : List Int) : List Int := if twO b = true then mkL (twF (twG b)) (anL b).length else twG b
def tTwo : Tab
  | [.sl .u8 b] => some (b.length ≤ 1048576, .tu [.ag [.i (anN b), .own 0], .ag [.i (twM b), .own 1]], [.row .i64 3 (anL b), .row .i64 3 (twL b)])
  | _ => none
theorem twL_len (b : List Int) : (twL b).length ≤ 64 := by
  unfold twL; split
  · rw [mkL_len]; exact (l2AL_len b _).2
  · exact (l2AL_len b _).2
theorem two_ok : Fits Try.prog 145 tTwo := by
  refine ⟨callable_of Try.func145 (by kernel_rfl) rfl, ?_⟩
  intro args p out Ho h hp
  unfold tTwo at h
  split at h <;> cases h
  rename_i b
  refine ⟨acall_by (env_ok2 (env := [(163, tIsFn)]) (envM := [(131, tNew), (185, tL2A), (165, tOnc)]) (by simp only [List.forall_mem_cons, List.not_mem_nil, false_implies, implies_true, and_true]; exact specIsFn_ok) (by simp only [List.forall_mem_cons, List.not_mem_nil, false_implies, implies_true, and_true]; exact ⟨new_ok, l2A_ok, onc_ok⟩)) Try.func145 rfl rfl rfl rfl rfl ?_, rfl, rfl⟩
  intro hlen c hc hX
  simp only [lensOk, AV.lenOk, true_and, and_true] at hlen
  simp only [Try.ntmps145, Try.results145, List.length_cons, List.length_nil, List.replicate, List.cons_append, List.nil_append, Nat.reduceAdd, Nat.reduceSub]
  have hl1 := l2AL_len b (newV b)
  have hl2 := l2AL_len b (twT b)
  have fN : l2AN b (newV b) = anN b := rfl
  have fL : l2AL b (newV b) = anL b := rfl
  have fT : l2AS b (newV b) = twT b := rfl
  have gN : l2AN b (twT b) = twN b := rfl
  have gL : l2AL b (twT b) = twG b := rfl
  have gS : l2AS b (twT b) = twS b := rfl
  rw [fL] at hl1
  rw [gL] at hl2
  obtain ⟨n, hn⟩ : ∃ n, anN b = n := ⟨_, rfl⟩
  obtain ⟨l, hl⟩ : ∃ l, anL b = l := ⟨_, rfl⟩
  obtain ⟨m, hm⟩ : ∃ m, twN b = m := ⟨_, rfl⟩
  obtain ⟨g, hg⟩ : ∃ g, twG b = g := ⟨_, rfl⟩
  obtain ⟨s, hs⟩ : ∃ s, twS b = s := ⟨_, rfl⟩
  rw [hl] at hl1
  rw [hg] at hl2
  rw [hn, hl]
  cases h1 : fnV n l with
  | false =>
    have eO : ¬ twO b = true := by unfold twO twB; rw [hn, hl, h1]; simp
    have eM : twM b = m := by unfold twM; rw [if_neg eO, hm]
    have eL : twL b = g := by unfold twL; rw [if_neg eO, hg]
    rw [eM, eL]
    repeat' first | ((with_reducible show aol _ _ _ _ _); first | (refine aol_guard_f (by rfl) ?_ ?_; (focus (simp only [go_sem]; done))) | (refine aol_guard_un (by rfl) ?_ ?_; (focus (simp only [go_sem]; done)))) | ((with_reducible refine hK _ ?_); clear hK K; try simp only [nxA, nxB]) | (with_reducible refine awp_seq fun K hK => ?_) | ((with_reducible show Awp _ _ (Code.region 11 _ true) _ _); (refine awp_ordersK [[0, 1, 2, 3], [0, 2, 1, 3], [1, 0, 2, 3]] (by kernel_rfl) (by kernel_rfl) (by repeat constructor) (fun K hK => ?_); simp only [Alls, and_true]; (repeat' apply And.intro) <;> (refine ⟨_, by repeat constructor, ?_⟩; simp (config := { maxSteps := 2000000 }) (disch := omega) only [go_sem, ↓reduceIte, Nat.reduceEqDiff, Nat.reduceAdd, Nat.reduceLT, Nat.reduceLeDiff, Nat.reduceSub, tNew, tL2A, pr_eta, fN, fL, fT, gN, gL, gS, hn, hl, hm, hg, hs, tIsFn, h1]))) | ((first | ((with_reducible show aol _ _ _ _ _); try first | (refine aol_guard_t (by rfl) ?_ ?_; (focus (simp only [go_sem]; done))) | (refine aol_guard_b (by rfl) (by rfl) (fun h => ?_) (fun h => ?_) <;> (try simp only [hsA, hsB, hsC, hsD, hsE, List.all_cons, List.all_nil, ne_eq, reduceCtorEq] at h))) | ((with_reducible show Awp _ _ (Code.region _ _ _) _ _); first | refine awp_regK (by repeat constructor) (fun K hK => ?_) | (refine awp_drwK (by kernel_rfl) (by repeat constructor) (fun K hK => ?_)))) <;> simp (config := { maxSteps := 2000000 }) (disch := omega) only [go_sem, ↓reduceIte, Nat.reduceEqDiff, Nat.reduceAdd, Nat.reduceLT, Nat.reduceLeDiff, Nat.reduceSub, tNew, tL2A, pr_eta, fN, fL, fT, gN, gL, gS, hn, hl, hm, hg, hs, tIsFn, h1]) | ((with_reducible show Awp _ _ (Code.cond _ _ _) _ _); refine awp_cond rfl (fun h => ?_) (fun h => ?_) <;> (try simp only [hsA, hsB, hsC, hsD, hsE, List.all_cons, List.all_nil, ne_eq, reduceCtorEq] at h)) | ((with_reducible first | refine awp_skip ?_ | refine awp_ret ?_); simp only [nxA, nxB]) | (with_reducible refine awp_block ?_) | ((with_reducible refine awp_exit ?_); simp only [nxA, ne_eq, not_false_eq_true, Nat.reduceEqDiff, reduceCtorEq]; try ((first | refine hK _ ?_ | (clear hK K; first | refine hK _ ?_ | (clear hK K; first | refine hK _ ?_ | (clear hK K; refine hK _ ?_)))); clear hK K)) | (with_reducible first | apply And.intro | exact True.intro) | ((with_reducible first | show List.all _ _ = true | show lendOk _ _ = true); rfl) | omega | ((with_reducible first | show ¬ _ | show _ → _); intro h; first | contradiction | cases h; done | skip)
    all_goals (try (first | refine fin_keep ?_ | refine finm_keep ?_; repeat clear hK))
    all_goals exact fin_pp (d := tPair) [3, 5] rfl rfl rfl rfl rfl rfl rfl rfl rfl rfl rfl
  | true =>
    cases h2 : fnV m g with
    | false =>
      have eO : ¬ twO b = true := by unfold twO twB; rw [hm, hg, h2]; simp
      have eM : twM b = m := by unfold twM; rw [if_neg eO, hm]
      have eL : twL b = g := by unfold twL; rw [if_neg eO, hg]
      rw [eM, eL]
      repeat' first | ((with_reducible show aol _ _ _ _ _); first | (refine aol_guard_f (by rfl) ?_ ?_; (focus (simp only [go_sem]; done))) | (refine aol_guard_un (by rfl) ?_ ?_; (focus (simp only [go_sem]; done)))) | ((with_reducible refine hK _ ?_); clear hK K; try simp only [nxA, nxB]) | (with_reducible refine awp_seq fun K hK => ?_) | ((with_reducible show Awp _ _ (Code.region 11 _ true) _ _); (refine awp_ordersK [[0, 1, 2, 3], [0, 2, 1, 3], [1, 0, 2, 3]] (by kernel_rfl) (by kernel_rfl) (by repeat constructor) (fun K hK => ?_); simp only [Alls, and_true]; (repeat' apply And.intro) <;> (refine ⟨_, by repeat constructor, ?_⟩; simp (config := { maxSteps := 2000000 }) (disch := omega) only [go_sem, ↓reduceIte, Nat.reduceEqDiff, Nat.reduceAdd, Nat.reduceLT, Nat.reduceLeDiff, Nat.reduceSub, tNew, tL2A, pr_eta, fN, fL, fT, gN, gL, gS, hn, hl, hm, hg, hs, tIsFn, h1, h2]))) | ((first | ((with_reducible show aol _ _ _ _ _); try first | (refine aol_guard_t (by rfl) ?_ ?_; (focus (simp only [go_sem]; done))) | (refine aol_guard_b (by rfl) (by rfl) (fun h => ?_) (fun h => ?_) <;> (try simp only [hsA, hsB, hsC, hsD, hsE, List.all_cons, List.all_nil, ne_eq, reduceCtorEq] at h))) | ((with_reducible show Awp _ _ (Code.region _ _ _) _ _); first | refine awp_regK (by repeat constructor) (fun K hK => ?_) | (refine awp_drwK (by kernel_rfl) (by repeat constructor) (fun K hK => ?_)))) <;> simp (config := { maxSteps := 2000000 }) (disch := omega) only [go_sem, ↓reduceIte, Nat.reduceEqDiff, Nat.reduceAdd, Nat.reduceLT, Nat.reduceLeDiff, Nat.reduceSub, tNew, tL2A, pr_eta, fN, fL, fT, gN, gL, gS, hn, hl, hm, hg, hs, tIsFn, h1, h2]) | ((with_reducible show Awp _ _ (Code.cond _ _ _) _ _); refine awp_cond rfl (fun h => ?_) (fun h => ?_) <;> (try simp only [hsA, hsB, hsC, hsD, hsE, List.all_cons, List.all_nil, ne_eq, reduceCtorEq] at h)) | ((with_reducible first | refine awp_skip ?_ | refine awp_ret ?_); simp only [nxA, nxB]) | (with_reducible refine awp_block ?_) | ((with_reducible refine awp_exit ?_); simp only [nxA, ne_eq, not_false_eq_true, Nat.reduceEqDiff, reduceCtorEq]; try ((first | refine hK _ ?_ | (clear hK K; first | refine hK _ ?_ | (clear hK K; first | refine hK _ ?_ | (clear hK K; refine hK _ ?_)))); clear hK K)) | (with_reducible first | apply And.intro | exact True.intro) | ((with_reducible first | show List.all _ _ = true | show lendOk _ _ = true); rfl) | omega | ((with_reducible first | show ¬ _ | show _ → _); intro h; first | contradiction | cases h; done | skip)
      all_goals (try (first | refine fin_keep ?_ | refine finm_keep ?_; repeat clear hK))
      all_goals exact fin_pp (d := tPair) [3, 5] rfl rfl rfl rfl rfl rfl rfl rfl rfl rfl rfl
    | true =>
      cases ho : onceX b 5 s with
      | true =>
        have eO : ¬ twO b = true := by unfold twO; rw [hs, ho]; simp
        have eM : twM b = m := by unfold twM; rw [if_neg eO, hm]
        have eL : twL b = g := by unfold twL; rw [if_neg eO, hg]
        rw [eM, eL]
        repeat' first | ((with_reducible show aol _ _ _ _ _); first | (refine aol_guard_f (by rfl) ?_ ?_; (focus (simp only [go_sem]; done))) | (refine aol_guard_un (by rfl) ?_ ?_; (focus (simp only [go_sem]; done)))) | ((with_reducible refine hK _ ?_); clear hK K; try simp only [nxA, nxB]) | (with_reducible refine awp_seq fun K hK => ?_) | ((with_reducible show Awp _ _ (Code.region 11 _ true) _ _); (refine awp_ordersK [[0, 1, 2, 3], [0, 2, 1, 3], [1, 0, 2, 3]] (by kernel_rfl) (by kernel_rfl) (by repeat constructor) (fun K hK => ?_); simp only [Alls, and_true]; (repeat' apply And.intro) <;> (refine ⟨_, by repeat constructor, ?_⟩; simp (config := { maxSteps := 2000000 }) (disch := omega) only [go_sem, ↓reduceIte, Nat.reduceEqDiff, Nat.reduceAdd, Nat.reduceLT, Nat.reduceLeDiff, Nat.reduceSub, tNew, tL2A, pr_eta, fN, fL, fT, gN, gL, gS, hn, hl, hm, hg, hs, tIsFn, h1, h2, tOnc, ho]))) | ((first | ((with_reducible show aol _ _ _ _ _); try first | (refine aol_guard_t (by rfl) ?_ ?_; (focus (simp only [go_sem]; done))) | (refine aol_guard_b (by rfl) (by rfl) (fun h => ?_) (fun h => ?_) <;> (try simp only [hsA, hsB, hsC, hsD, hsE, List.all_cons, List.all_nil, ne_eq, reduceCtorEq] at h))) | ((with_reducible show Awp _ _ (Code.region _ _ _) _ _); first | refine awp_regK (by repeat constructor) (fun K hK => ?_) | (refine awp_drwK (by kernel_rfl) (by repeat constructor) (fun K hK => ?_)))) <;> simp (config := { maxSteps := 2000000 }) (disch := omega) only [go_sem, ↓reduceIte, Nat.reduceEqDiff, Nat.reduceAdd, Nat.reduceLT, Nat.reduceLeDiff, Nat.reduceSub, tNew, tL2A, pr_eta, fN, fL, fT, gN, gL, gS, hn, hl, hm, hg, hs, tIsFn, h1, h2, tOnc, ho]) | ((with_reducible show Awp _ _ (Code.cond _ _ _) _ _); refine awp_cond rfl (fun h => ?_) (fun h => ?_) <;> (try simp only [hsA, hsB, hsC, hsD, hsE, List.all_cons, List.all_nil, ne_eq, reduceCtorEq] at h)) | ((with_reducible first | refine awp_skip ?_ | refine awp_ret ?_); simp only [nxA, nxB]) | (with_reducible refine awp_block ?_) | ((with_reducible refine awp_exit ?_); simp only [nxA, ne_eq, not_false_eq_true, Nat.reduceEqDiff, reduceCtorEq]; try ((first | refine hK _ ?_ | (clear hK K; first | refine hK _ ?_ | (clear hK K; first | refine hK _ ?_ | (clear hK K; refine hK _ ?_)))); clear hK K)) | (with_reducible first | apply And.intro | exact True.intro) | ((with_reducible first | show List.all _ _ = true | show lendOk _ _ = true); rfl) | omega | ((with_reducible first | show ¬ _ | show _ → _); intro h; first | contradiction | cases h; done | skip)
        all_goals (try (first | refine fin_keep ?_ | refine finm_keep ?_; repeat clear hK))
        all_goals exact fin_pp (d := tPair) [3, 5] rfl rfl rfl rfl rfl rfl rfl rfl rfl rfl rfl
      | false =>
        have eO : twO b = true := by unfold twO twB; rw [hn, hl, hm, hg, hs, h1, h2, ho]; rfl
        have eM : twM b = n := by unfold twM; rw [if_pos eO, hn]
        have eL : twL b = mkL (twF g) l.length := by unfold twL; rw [if_pos eO, hg, hl]
        rw [eM, eL]
        repeat' first | ((with_reducible show aol _ _ _ _ _); first | (refine aol_guard_f (by rfl) ?_ ?_; (focus (simp only [go_sem]; done))) | (refine aol_guard_un (by rfl) ?_ ?_; (focus (simp only [go_sem]; done)))) | ((with_reducible refine hK _ ?_); clear hK K; try simp only [nxA, nxB]) | (with_reducible refine awp_seq fun K hK => ?_) | ((first | ((with_reducible show aol _ _ _ _ _); try first | (refine aol_guard_t (by rfl) ?_ ?_; (focus (simp only [go_sem]; done))) | (refine aol_guard_b (by rfl) (by rfl) (fun h => ?_) (fun h => ?_) <;> (try simp only [hsA, hsB, hsC, hsD, hsE, List.all_cons, List.all_nil, ne_eq, reduceCtorEq] at h))) | ((with_reducible show Awp _ _ (Code.region _ _ _) _ _); first | refine awp_regK (by repeat constructor) (fun K hK => ?_) | (refine awp_drwK (by kernel_rfl) (by repeat constructor) (fun K hK => ?_)))) <;> simp (config := { maxSteps := 2000000 }) (disch := omega) only [go_sem, ↓reduceIte, Nat.reduceEqDiff, Nat.reduceAdd, Nat.reduceLT, Nat.reduceLeDiff, Nat.reduceSub, tNew, tL2A, pr_eta, fN, fL, fT, gN, gL, gS, hn, hl, hm, hg, hs, tIsFn, h1, h2, tOnc, ho]) | ((with_reducible show Awp _ _ (Code.cond _ _ _) _ _); refine awp_cond rfl (fun h => ?_) (fun h => ?_) <;> (try simp only [hsA, hsB, hsC, hsD, hsE, List.all_cons, List.all_nil, ne_eq, reduceCtorEq] at h)) | ((with_reducible first | refine awp_skip ?_ | refine awp_ret ?_); simp only [nxA, nxB]) | (with_reducible refine awp_block ?_) | ((with_reducible refine awp_exit ?_); simp only [nxA, ne_eq, not_false_eq_true, Nat.reduceEqDiff, reduceCtorEq]; try ((first | refine hK _ ?_ | (clear hK K; first | refine hK _ ?_ | (clear hK K; first | refine hK _ ?_ | (clear hK K; refine hK _ ?_)))); clear hK K)) | (with_reducible first | apply And.intro | exact True.intro) | ((with_reducible first | show List.all _ _ = true | show lendOk _ _ = true); rfl) | omega | ((with_reducible first | show ¬ _ | show _ → _); intro h; first | contradiction | cases h; done | skip)
        all_goals (try (first | refine fin_keep ?_ | refine finm_keep ?_; repeat clear hK))
        refine awp_forR 0 hX (fun st (k : Nat) => st.at [2, 3, 5, 6] [(7, .own 7), (8, .i k)] [.box 26 [.i 0, .nl], .box 26 [.i 0, .nl], .box 135 [.sl .u8 b, .i ((belowS b 5 s).1 : Int), .i (belowS b 5 s).2], .row .i64 3 l, .box 26 [.i n, .own 3], .row .i64 3 g, .box 26 [.i m, .own 5], .row .i64 3 (mkL (twF g) k)]) (fun k => k ≤ l.length) (fun k => l.length - k) 0 (Nat.zero_le _) ?_ ?_
        · exact ⟨[0, 1, 2, 3, 4, 5, 6, 7], rfl, rfl, by simp [-List.getD_eq_getElem?_getD, -List.length_take, List.getD_cons_zero, List.getD_cons_succ, leFr, ASt.at, keepFr, updAll, upd_zero, upd_succ, AV.rnb, AV.rnb0, mkL], by simp [-List.getD_eq_getElem?_getD, List.getD_cons_zero, List.getD_cons_succ, ASt.at, AO.rnb, AV.rnb0, upd_k0, upd_k1, upd_k2, upd_k3, mkL], rfl, rfl⟩
        rintro k hk
        simp only [ASt.at, keepFr, updAll, upd_zero, upd_succ, List.mem_cons, List.not_mem_nil, Nat.reduceEqDiff, Nat.reduceAdd, or_false, or_true, false_or, true_or, ↓reduceIte, eq_self]
        have hcl := mkL_len (twF g) k
        by_cases hkl : k < l.length
        · have hmod : (k : Int).tmod (g.length : Int) = ((k % g.length : Nat) : Int) := by rw [Int.tmod_eq_emod_of_nonneg (by omega)]; omega
          have hml : k % g.length < g.length := Nat.mod_lt _ (by omega)
          have hT : g.getD (k % g.length) 0 = twF g (k : Int) := by unfold twF; rw [Int.toNat_natCast]
          have hg0 : ¬ (g.length : Int) = 0 := by omega
          repeat' first | ((with_reducible show aol _ _ _ _ _); first | (refine aol_guard_f (by rfl) ?_ ?_; (focus (simp only [go_sem]; done))) | (refine aol_guard_un (by rfl) ?_ ?_; (focus (simp only [go_sem]; done)))) | ((with_reducible refine hK _ ?_); clear hK K; try simp only [nxA, nxB]) | (with_reducible refine awp_seq fun K hK => ?_) | ((with_reducible show Awp _ _ (Code.region 10 _ true) _ _); (refine awp_ordersK [[3, 0, 1, 2, 4, 5, 6], [3, 0, 1, 2, 5, 4, 6], [3, 0, 1, 5, 2, 4, 6], [3, 0, 5, 1, 2, 4, 6], [3, 1, 0, 2, 4, 5, 6], [3, 1, 0, 2, 5, 4, 6], [3, 1, 0, 5, 2, 4, 6], [3, 1, 2, 0, 4, 5, 6], [3, 1, 2, 0, 5, 4, 6], [3, 1, 2, 4, 0, 5, 6]] (by kernel_rfl) (by kernel_rfl) (by repeat constructor) (fun K hK => ?_); simp only [Alls, and_true]; (repeat' apply And.intro) <;> (refine ⟨_, by repeat constructor, ?_⟩; simp (config := { maxSteps := 2000000 }) (disch := omega) only [go_sem, ↓reduceIte, Nat.reduceEqDiff, Nat.reduceAdd, Nat.reduceLT, Nat.reduceLeDiff, Nat.reduceSub, hmod, hT]))) | ((with_reducible show Awp _ _ (Code.region 11 _ true) _ _); (refine awp_ordersK [[0, 1, 2, 3], [0, 2, 1, 3], [1, 0, 2, 3]] (by kernel_rfl) (by kernel_rfl) (by repeat constructor) (fun K hK => ?_); simp only [Alls, and_true]; (repeat' apply And.intro) <;> (refine ⟨_, by repeat constructor, ?_⟩; simp (config := { maxSteps := 2000000 }) (disch := omega) only [go_sem, ↓reduceIte, Nat.reduceEqDiff, Nat.reduceAdd, Nat.reduceLT, Nat.reduceLeDiff, Nat.reduceSub, hmod, hT]))) | ((first | ((with_reducible show aol _ _ _ _ _); try first | (refine aol_guard_t (by rfl) ?_ ?_; (focus (simp only [go_sem]; done))) | (refine aol_guard_b (by rfl) (by rfl) (fun h => ?_) (fun h => ?_) <;> (try simp only [hsA, hsB, hsC, hsD, hsE, List.all_cons, List.all_nil, ne_eq, reduceCtorEq] at h))) | ((with_reducible show Awp _ _ (Code.region _ _ _) _ _); first | refine awp_regK (by repeat constructor) (fun K hK => ?_) | (refine awp_drwK (by kernel_rfl) (by repeat constructor) (fun K hK => ?_)))) <;> simp (config := { maxSteps := 2000000 }) (disch := omega) only [go_sem, ↓reduceIte, Nat.reduceEqDiff, Nat.reduceAdd, Nat.reduceLT, Nat.reduceLeDiff, Nat.reduceSub, hmod, hT]) | ((with_reducible show Awp _ _ (Code.cond _ _ _) _ _); refine awp_cond rfl (fun h => ?_) (fun h => ?_) <;> (try simp only [hsA, hsB, hsC, hsD, hsE, List.all_cons, List.all_nil, ne_eq, reduceCtorEq] at h)) | ((with_reducible first | refine awp_skip ?_ | refine awp_ret ?_); simp only [nxA, nxB]) | (with_reducible refine awp_block ?_) | ((with_reducible refine awp_exit ?_); simp only [nxA, ne_eq, not_false_eq_true, Nat.reduceEqDiff, reduceCtorEq]; try ((first | refine hK _ ?_ | (clear hK K; first | refine hK _ ?_ | (clear hK K; first | refine hK _ ?_ | (clear hK K; refine hK _ ?_)))); clear hK K)) | (with_reducible first | apply And.intro | exact True.intro) | ((with_reducible first | show List.all _ _ = true | show lendOk _ _ = true); rfl) | omega | ((with_reducible first | show ¬ _ | show _ → _); intro h; first | contradiction | cases h; done | skip)
          all_goals (try (first | refine fin_keep ?_ | refine finm_keep ?_; repeat clear hK))
          refine ⟨k + 1, by omega, by omega, ?_⟩
          rw [mkL_succ]
          exact ⟨[0, 1, 2, 3, 4, 5, 6, 9], rfl, rfl, by simp [-List.getD_eq_getElem?_getD, -List.length_take, List.getD_cons_zero, List.getD_cons_succ, leFr, ASt.at, keepFr, updAll, upd_zero, upd_succ, AV.rnb, AV.rnb0], by simp [-List.getD_eq_getElem?_getD, List.getD_cons_zero, List.getD_cons_succ, ASt.at, AO.rnb, AV.rnb0, upd_k0, upd_k1, upd_k2, upd_k3], rfl, rfl⟩
        · obtain rfl : k = l.length := by omega
          repeat' first | ((with_reducible show aol _ _ _ _ _); first | (refine aol_guard_f (by rfl) ?_ ?_; (focus (simp only [go_sem]; done))) | (refine aol_guard_un (by rfl) ?_ ?_; (focus (simp only [go_sem]; done)))) | ((with_reducible refine hK _ ?_); clear hK K; try simp only [nxA, nxB]) | (with_reducible refine awp_seq fun K hK => ?_) | ((with_reducible show Awp _ _ (Code.region 10 _ true) _ _); (refine awp_ordersK [[3, 0, 1, 2, 4, 5, 6], [3, 0, 1, 2, 5, 4, 6], [3, 0, 1, 5, 2, 4, 6], [3, 0, 5, 1, 2, 4, 6], [3, 1, 0, 2, 4, 5, 6], [3, 1, 0, 2, 5, 4, 6], [3, 1, 0, 5, 2, 4, 6], [3, 1, 2, 0, 4, 5, 6], [3, 1, 2, 0, 5, 4, 6], [3, 1, 2, 4, 0, 5, 6]] (by kernel_rfl) (by kernel_rfl) (by repeat constructor) (fun K hK => ?_); simp only [Alls, and_true]; (repeat' apply And.intro) <;> (refine ⟨_, by repeat constructor, ?_⟩; simp (config := { maxSteps := 2000000 }) (disch := omega) only [go_sem, ↓reduceIte, Nat.reduceEqDiff, Nat.reduceAdd, Nat.reduceLT, Nat.reduceLeDiff, Nat.reduceSub]))) | ((with_reducible show Awp _ _ (Code.region 11 _ true) _ _); (refine awp_ordersK [[0, 1, 2, 3], [0, 2, 1, 3], [1, 0, 2, 3]] (by kernel_rfl) (by kernel_rfl) (by repeat constructor) (fun K hK => ?_); simp only [Alls, and_true]; (repeat' apply And.intro) <;> (refine ⟨_, by repeat constructor, ?_⟩; simp (config := { maxSteps := 2000000 }) (disch := omega) only [go_sem, ↓reduceIte, Nat.reduceEqDiff, Nat.reduceAdd, Nat.reduceLT, Nat.reduceLeDiff, Nat.reduceSub]))) | ((first | ((with_reducible show aol _ _ _ _ _); try first | (refine aol_guard_t (by rfl) ?_ ?_; (focus (simp only [go_sem]; done))) | (refine aol_guard_b (by rfl) (by rfl) (fun h => ?_) (fun h => ?_) <;> (try simp only [hsA, hsB, hsC, hsD, hsE, List.all_cons, List.all_nil, ne_eq, reduceCtorEq] at h))) | ((with_reducible show Awp _ _ (Code.region _ _ _) _ _); first | refine awp_regK (by repeat constructor) (fun K hK => ?_) | (refine awp_drwK (by kernel_rfl) (by repeat constructor) (fun K hK => ?_)))) <;> simp (config := { maxSteps := 2000000 }) (disch := omega) only [go_sem, ↓reduceIte, Nat.reduceEqDiff, Nat.reduceAdd, Nat.reduceLT, Nat.reduceLeDiff, Nat.reduceSub]) | ((with_reducible show Awp _ _ (Code.cond _ _ _) _ _); refine awp_cond rfl (fun h => ?_) (fun h => ?_) <;> (try simp only [hsA, hsB, hsC, hsD, hsE, List.all_cons, List.all_nil, ne_eq, reduceCtorEq] at h)) | ((with_reducible first | refine awp_skip ?_ | refine awp_ret ?_); simp only [nxA, nxB]) | (with_reducible refine awp_block ?_) | ((with_reducible refine awp_exit ?_); simp only [nxA, ne_eq, not_false_eq_true, Nat.reduceEqDiff, reduceCtorEq]; try ((first | refine hK _ ?_ | (clear hK K; first | refine hK _ ?_ | (clear hK K; first | refine hK _ ?_ | (clear hK K; refine hK _ ?_)))); clear hK K)) | (with_reducible first | apply And.intro | exact True.intro) | ((with_reducible first | show List.all _ _ = true | show lendOk _ _ = true); rfl) | omega | ((with_reducible first | show ¬ _ | show _ → _); intro h; first | contradiction | cases h; done | skip)
          all_goals (try (first | refine fin_keep ?_ | refine finm_keep ?_; repeat clear hK))
          all_goals exact fin_pp (d := tPair) [3, 7] rfl rfl rfl rfl rfl rfl rfl rfl rfl rfl rfl
def dvEv (b : List Int) : Bool := decide ((b.length : Int).tmod 2 = 0)
def dvA (b : List Int) : Int := if dvEv b = true then drMat b else anN b
def dvB (b : List Int) : Int := if dvEv b = true then drMat b else twM b
def dvF (b : List Int) : List Int := if dvEv b = true then drMaL b else anL b
def dvG (b : List Int) : List Int := if dvEv b = true then btL b else twL b
def dvC (b : List Int) : Bool := !dvEv b || (btR b).isSome
def tDvY : Tab
  | [.sl .u8 b] => some (dvC b = true ∧ b.length ≤ 1048576, .tu [.ag [.i (dvA b), .own 0], .ag [.i (dvB b), .own 1]], [.row .i64 3 (dvF b), .row .i64 3 (dvG b)])
  | _ => none
def tDvN : Tab
  | [.sl .u8 b] => some (dvC b = false ∧ b.length ≤ 1048576, .tu [.ag [.i (dvA b), .own 0], .ag [.i (dvA b), .own 0]], [.row .i64 3 (dvF b)])
  | _ => none
def tDv : Tab
  | [.sl .u8 b] => if dvC b = true then some (b.length ≤ 1048576, .tu [.ag [.i (dvA b), .own 0], .ag [.i (dvB b), .own 1]], [.row .i64 3 (dvF b), .row .i64 3 (dvG b)])
      else some (b.length ≤ 1048576, .tu [.ag [.i (dvA b), .own 0], .ag [.i (dvA b), .own 0]], [.row .i64 3 (dvF b)])
  | _ => none
theorem tDv_yes {b : List Int} (h : dvC b = true) : tDv [.sl .u8 b] = some (b.length ≤ 1048576, .tu [.ag [.i (dvA b), .own 0], .ag [.i (dvB b), .own 1]], [.row .i64 3 (dvF b), .row .i64 3 (dvG b)]) := if_pos h
theorem tDv_no {b : List Int} (h : dvC b = false) : tDv [.sl .u8 b] = some (b.length ≤ 1048576, .tu [.ag [.i (dvA b), .own 0], .ag [.i (dvA b), .own 0]], [.row .i64 3 (dvF b)]) := if_neg (by rw [h]; decide)
theorem dv_by {args : List AV} {p : Prop} {out : AV} {Ho : List AO} (h : tDv args = some (p, out, Ho)) (hp : p) : (∃ p', tDvY args = some (p', out, Ho) ∧ p') ∨ ∃ p', tDvN args = some (p', out, Ho) ∧ p' := by
  unfold tDv at h
  split at h
  · split at h <;> cases h <;> rename_i hc
    · exact .inl ⟨_, rfl, hc, hp⟩
    · exact .inr ⟨_, rfl, Bool.eq_false_iff.2 hc, hp⟩
  · cases h
theorem drDvY_ok : Fits Try.prog 36 tDvY := by
  refine ⟨callable_of Try.func36 (by kernel_rfl) rfl, ?_⟩
  intro args p out Ho h hp
  unfold tDvY at h
  split at h <;> cases h
  rename_i b
  refine ⟨acall_by (env_ok (env := [(114, tBt), (145, tTwo)]) (by simp only [List.forall_mem_cons, List.not_mem_nil, false_implies, implies_true, and_true]; exact ⟨bt_ok, two_ok⟩)) Try.func36 rfl rfl rfl rfl rfl ?_, rfl, rfl⟩
  intro hlen c hc hX
  simp only [lensOk, AV.lenOk, true_and, and_true] at hlen
  simp only [Try.ntmps36, Try.results36, List.length_cons, List.length_nil, List.replicate, List.cons_append, List.nil_append, Nat.reduceAdd, Nat.reduceSub]
  obtain ⟨hsome, hb⟩ := hp
  have h1 := drMaL_len b
  have h2 := btL_len b
  have h3 := l2AL_len b (newV b)
  have h4 := twL_len b
  have fL : l2AL b (newV b) = anL b := rfl
  rw [fL] at h3
  cases he : dvEv b with
  | true =>
    have hs : (btR b).isSome = true := by unfold dvC at hsome; rw [he] at hsome; exact hsome
    have e := tBt_yes hs
    have hm : (b.length : Int).tmod 2 = 0 := by unfold dvEv at he; rw [decide_eq_true_eq] at he; exact he
    have eA : dvA b = drMat b := if_pos he
    have eB : dvB b = drMat b := if_pos he
    have eF : dvF b = drMaL b := if_pos he
    have eG : dvG b = btL b := if_pos he
    rw [eA, eB, eF, eG]
    repeat' first | ((with_reducible show aol _ _ _ _ _); first | (refine aol_guard_f (by rfl) ?_ ?_; (focus (simp only [go_sem]; done))) | (refine aol_guard_un (by rfl) ?_ ?_; (focus (simp only [go_sem]; done)))) | ((with_reducible refine hK _ ?_); clear hK K; try simp only [nxA, nxB]) | (with_reducible refine awp_seq fun K hK => ?_) | ((with_reducible show Awp _ _ (Code.region 3 _ true) _ _); (refine awp_ordersK [[0, 1, 2, 3], [0, 2, 1, 3], [1, 0, 2, 3]] (by kernel_rfl) (by kernel_rfl) (by repeat constructor) (fun K hK => ?_); simp only [Alls, and_true]; (repeat' apply And.intro) <;> (refine ⟨_, by repeat constructor, ?_⟩; simp (config := { maxSteps := 2000000 }) (disch := omega) only [go_sem, ↓reduceIte, Nat.reduceEqDiff, Nat.reduceAdd, Nat.reduceLT, Nat.reduceLeDiff, Nat.reduceSub, e, after_row2, hm]))) | ((first | ((with_reducible show aol _ _ _ _ _); try first | (refine aol_guard_t (by rfl) ?_ ?_; (focus (simp only [go_sem]; done))) | (refine aol_guard_b (by rfl) (by rfl) (fun h => ?_) (fun h => ?_) <;> (try simp only [hsA, hsB, hsC, hsD, hsE, List.all_cons, List.all_nil, ne_eq, reduceCtorEq] at h))) | ((with_reducible show Awp _ _ (Code.region _ _ _) _ _); first | refine awp_regK (by repeat constructor) (fun K hK => ?_) | (refine awp_drwK (by kernel_rfl) (by repeat constructor) (fun K hK => ?_)))) <;> simp (config := { maxSteps := 2000000 }) (disch := omega) only [go_sem, ↓reduceIte, Nat.reduceEqDiff, Nat.reduceAdd, Nat.reduceLT, Nat.reduceLeDiff, Nat.reduceSub, e, after_row2, hm]) | ((with_reducible show Awp _ _ (Code.cond _ _ _) _ _); refine awp_cond rfl (fun h => ?_) (fun h => ?_) <;> (try simp only [hsA, hsB, hsC, hsD, hsE, List.all_cons, List.all_nil, ne_eq, reduceCtorEq] at h)) | ((with_reducible first | refine awp_skip ?_ | refine awp_ret ?_); simp only [nxA, nxB]) | (with_reducible refine awp_block ?_) | ((with_reducible refine awp_exit ?_); simp only [nxA, ne_eq, not_false_eq_true, Nat.reduceEqDiff, reduceCtorEq]; try ((first | refine hK _ ?_ | (clear hK K; first | refine hK _ ?_ | (clear hK K; first | refine hK _ ?_ | (clear hK K; refine hK _ ?_)))); clear hK K)) | (with_reducible first | apply And.intro | exact True.intro) | ((with_reducible first | show List.all _ _ = true | show lendOk _ _ = true); rfl) | omega | ((with_reducible first | show ¬ _ | show _ → _); intro h; first | contradiction | cases h; done | skip)
    all_goals (try (first | refine fin_keep ?_ | refine finm_keep ?_; repeat clear hK))
    all_goals exact fin_pp (d := tPair) [2, 3] rfl rfl rfl rfl rfl rfl rfl rfl rfl rfl rfl
  | false =>
    have hm : ¬ (b.length : Int).tmod 2 = 0 := by unfold dvEv at he; rw [decide_eq_false_iff_not] at he; exact he
    have hne : ¬ dvEv b = true := by rw [he]; decide
    have eA : dvA b = anN b := if_neg hne
    have eB : dvB b = twM b := if_neg hne
    have eF : dvF b = anL b := if_neg hne
    have eG : dvG b = twL b := if_neg hne
    rw [eA, eB, eF, eG]
    cases hs : (btR b).isSome with
    | true =>
      have e := tBt_yes hs
      repeat' first | ((with_reducible show aol _ _ _ _ _); first | (refine aol_guard_f (by rfl) ?_ ?_; (focus (simp only [go_sem]; done))) | (refine aol_guard_un (by rfl) ?_ ?_; (focus (simp only [go_sem]; done)))) | ((with_reducible refine hK _ ?_); clear hK K; try simp only [nxA, nxB]) | (with_reducible refine awp_seq fun K hK => ?_) | ((with_reducible show Awp _ _ (Code.region 5 _ true) _ _); (refine awp_ordersK [[0, 1, 2, 3], [0, 2, 1, 3], [1, 0, 2, 3]] (by kernel_rfl) (by kernel_rfl) (by repeat constructor) (fun K hK => ?_); simp only [Alls, and_true]; (repeat' apply And.intro) <;> (refine ⟨_, by repeat constructor, ?_⟩; simp (config := { maxSteps := 2000000 }) (disch := omega) only [go_sem, ↓reduceIte, Nat.reduceEqDiff, Nat.reduceAdd, Nat.reduceLT, Nat.reduceLeDiff, Nat.reduceSub, e, after_row2, hm, tTwo]))) | ((first | ((with_reducible show aol _ _ _ _ _); try first | (refine aol_guard_t (by rfl) ?_ ?_; (focus (simp only [go_sem]; done))) | (refine aol_guard_b (by rfl) (by rfl) (fun h => ?_) (fun h => ?_) <;> (try simp only [hsA, hsB, hsC, hsD, hsE, List.all_cons, List.all_nil, ne_eq, reduceCtorEq] at h))) | ((with_reducible show Awp _ _ (Code.region _ _ _) _ _); first | refine awp_regK (by repeat constructor) (fun K hK => ?_) | (refine awp_drwK (by kernel_rfl) (by repeat constructor) (fun K hK => ?_)))) <;> simp (config := { maxSteps := 2000000 }) (disch := omega) only [go_sem, ↓reduceIte, Nat.reduceEqDiff, Nat.reduceAdd, Nat.reduceLT, Nat.reduceLeDiff, Nat.reduceSub, e, after_row2, hm, tTwo]) | ((with_reducible show Awp _ _ (Code.cond _ _ _) _ _); refine awp_cond rfl (fun h => ?_) (fun h => ?_) <;> (try simp only [hsA, hsB, hsC, hsD, hsE, List.all_cons, List.all_nil, ne_eq, reduceCtorEq] at h)) | ((with_reducible first | refine awp_skip ?_ | refine awp_ret ?_); simp only [nxA, nxB]) | (with_reducible refine awp_block ?_) | ((with_reducible refine awp_exit ?_); simp only [nxA, ne_eq, not_false_eq_true, Nat.reduceEqDiff, reduceCtorEq]; try ((first | refine hK _ ?_ | (clear hK K; first | refine hK _ ?_ | (clear hK K; first | refine hK _ ?_ | (clear hK K; refine hK _ ?_)))); clear hK K)) | (with_reducible first | apply And.intro | exact True.intro) | ((with_reducible first | show List.all _ _ = true | show lendOk _ _ = true); rfl) | omega | ((with_reducible first | show ¬ _ | show _ → _); intro h; first | contradiction | cases h; done | skip)
      all_goals (try (first | refine fin_keep ?_ | refine finm_keep ?_; repeat clear hK))
      all_goals exact fin_pp (d := tPair) [6, 7] rfl rfl rfl rfl rfl rfl rfl rfl rfl rfl rfl
    | false =>
      have e := tBt_no hs
      repeat' first | ((with_reducible show aol _ _ _ _ _); first | (refine aol_guard_f (by rfl) ?_ ?_; (focus (simp only [go_sem]; done))) | (refine aol_guard_un (by rfl) ?_ ?_; (focus (simp only [go_sem]; done)))) | ((with_reducible refine hK _ ?_); clear hK K; try simp only [nxA, nxB]) | (with_reducible refine awp_seq fun K hK => ?_) | ((with_reducible show Awp _ _ (Code.region 5 _ true) _ _); (refine awp_ordersK [[0, 1, 2, 3], [0, 2, 1, 3], [1, 0, 2, 3]] (by kernel_rfl) (by kernel_rfl) (by repeat constructor) (fun K hK => ?_); simp only [Alls, and_true]; (repeat' apply And.intro) <;> (refine ⟨_, by repeat constructor, ?_⟩; simp (config := { maxSteps := 2000000 }) (disch := omega) only [go_sem, ↓reduceIte, Nat.reduceEqDiff, Nat.reduceAdd, Nat.reduceLT, Nat.reduceLeDiff, Nat.reduceSub, e, after_row2, hm, tTwo]))) | ((first | ((with_reducible show aol _ _ _ _ _); try first | (refine aol_guard_t (by rfl) ?_ ?_; (focus (simp only [go_sem]; done))) | (refine aol_guard_b (by rfl) (by rfl) (fun h => ?_) (fun h => ?_) <;> (try simp only [hsA, hsB, hsC, hsD, hsE, List.all_cons, List.all_nil, ne_eq, reduceCtorEq] at h))) | ((with_reducible show Awp _ _ (Code.region _ _ _) _ _); first | refine awp_regK (by repeat constructor) (fun K hK => ?_) | (refine awp_drwK (by kernel_rfl) (by repeat constructor) (fun K hK => ?_)))) <;> simp (config := { maxSteps := 2000000 }) (disch := omega) only [go_sem, ↓reduceIte, Nat.reduceEqDiff, Nat.reduceAdd, Nat.reduceLT, Nat.reduceLeDiff, Nat.reduceSub, e, after_row2, hm, tTwo]) | ((with_reducible show Awp _ _ (Code.cond _ _ _) _ _); refine awp_cond rfl (fun h => ?_) (fun h => ?_) <;> (try simp only [hsA, hsB, hsC, hsD, hsE, List.all_cons, List.all_nil, ne_eq, reduceCtorEq] at h)) | ((with_reducible first | refine awp_skip ?_ | refine awp_ret ?_); simp only [nxA, nxB]) | (with_reducible refine awp_block ?_) | ((with_reducible refine awp_exit ?_); simp only [nxA, ne_eq, not_false_eq_true, Nat.reduceEqDiff, reduceCtorEq]; try ((first | refine hK _ ?_ | (clear hK K; first | refine hK _ ?_ | (clear hK K; first | refine hK _ ?_ | (clear hK K; refine hK _ ?_)))); clear hK K)) | (with_reducible first | apply And.intro | exact True.intro) | ((with_reducible first | show List.all _ _ = true | show lendOk _ _ = true); rfl) | omega | ((with_reducible first | show ¬ _ | show _ → _); intro h; first | contradiction | cases h; done | skip)
      all_goals (try (first | refine fin_keep ?_ | refine finm_keep ?_; repeat clear hK))
      all_goals exact fin_pp (d := tPair) [5, 6] rfl rfl rfl rfl rfl rfl rfl rfl rfl rfl rfl
theorem drDvN_ok : Fits Try.prog 36 tDvN := by
  refine ⟨callable_of Try.func36 (by kernel_rfl) rfl, ?_⟩
  intro args p out Ho h hp
  unfold tDvN at h
  split at h <;> cases h
  rename_i b
  refine ⟨acall_by (env_ok (env := [(114, tBt), (145, tTwo)]) (by simp only [List.forall_mem_cons, List.not_mem_nil, false_implies, implies_true, and_true]; exact ⟨bt_ok, two_ok⟩)) Try.func36 rfl rfl rfl rfl rfl ?_, rfl, rfl⟩
  intro hlen c hc hX
  simp only [lensOk, AV.lenOk, true_and, and_true] at hlen
  simp only [Try.ntmps36, Try.results36, List.length_cons, List.length_nil, List.replicate, List.cons_append, List.nil_append, Nat.reduceAdd, Nat.reduceSub]
  obtain ⟨hsome, hb⟩ := hp
  have h1 := drMaL_len b
  have he : dvEv b = true := by
    unfold dvC at hsome; revert hsome; cases dvEv b <;> simp
  have hs : (btR b).isSome = false := by unfold dvC at hsome; rw [he] at hsome; exact hsome
  have e := tBt_no hs
  have hm : (b.length : Int).tmod 2 = 0 := by unfold dvEv at he; rw [decide_eq_true_eq] at he; exact he
  have eA : dvA b = drMat b := if_pos he
  have eF : dvF b = drMaL b := if_pos he
  rw [eA, eF]
  repeat' first | ((with_reducible show aol _ _ _ _ _); first | (refine aol_guard_f (by rfl) ?_ ?_; (focus (simp only [go_sem]; done))) | (refine aol_guard_un (by rfl) ?_ ?_; (focus (simp only [go_sem]; done)))) | ((with_reducible refine hK _ ?_); clear hK K; try simp only [nxA, nxB]) | (with_reducible refine awp_seq fun K hK => ?_) | ((with_reducible show Awp _ _ (Code.region 3 _ true) _ _); (refine awp_ordersK [[0, 1, 2, 3], [0, 2, 1, 3], [1, 0, 2, 3]] (by kernel_rfl) (by kernel_rfl) (by repeat constructor) (fun K hK => ?_); simp only [Alls, and_true]; (repeat' apply And.intro) <;> (refine ⟨_, by repeat constructor, ?_⟩; simp (config := { maxSteps := 2000000 }) (disch := omega) only [go_sem, ↓reduceIte, Nat.reduceEqDiff, Nat.reduceAdd, Nat.reduceLT, Nat.reduceLeDiff, Nat.reduceSub, e, hm]))) | ((first | ((with_reducible show aol _ _ _ _ _); try first | (refine aol_guard_t (by rfl) ?_ ?_; (focus (simp only [go_sem]; done))) | (refine aol_guard_b (by rfl) (by rfl) (fun h => ?_) (fun h => ?_) <;> (try simp only [hsA, hsB, hsC, hsD, hsE, List.all_cons, List.all_nil, ne_eq, reduceCtorEq] at h))) | ((with_reducible show Awp _ _ (Code.region _ _ _) _ _); first | refine awp_regK (by repeat constructor) (fun K hK => ?_) | (refine awp_drwK (by kernel_rfl) (by repeat constructor) (fun K hK => ?_)))) <;> simp (config := { maxSteps := 2000000 }) (disch := omega) only [go_sem, ↓reduceIte, Nat.reduceEqDiff, Nat.reduceAdd, Nat.reduceLT, Nat.reduceLeDiff, Nat.reduceSub, e, hm]) | ((with_reducible show Awp _ _ (Code.cond _ _ _) _ _); refine awp_cond rfl (fun h => ?_) (fun h => ?_) <;> (try simp only [hsA, hsB, hsC, hsD, hsE, List.all_cons, List.all_nil, ne_eq, reduceCtorEq] at h)) | ((with_reducible first | refine awp_skip ?_ | refine awp_ret ?_); simp only [nxA, nxB]) | (with_reducible refine awp_block ?_) | ((with_reducible refine awp_exit ?_); simp only [nxA, ne_eq, not_false_eq_true, Nat.reduceEqDiff, reduceCtorEq]; try ((first | refine hK _ ?_ | (clear hK K; first | refine hK _ ?_ | (clear hK K; first | refine hK _ ?_ | (clear hK K; refine hK _ ?_)))); clear hK K)) | (with_reducible first | apply And.intro | exact True.intro) | ((with_reducible first | show List.all _ _ = true | show lendOk _ _ = true); rfl) | omega | ((with_reducible first | show ¬ _ | show _ → _); intro h; first | contradiction | cases h; done | skip)
  all_goals (try (first | refine fin_keep ?_ | refine finm_keep ?_; repeat clear hK))
  all_goals exact fin_pp (d := tPair) [2] rfl rfl rfl rfl rfl rfl rfl rfl rfl rfl rfl
theorem drDv_ok : Fits Try.prog 36 tDv := fits_or drDvY_ok drDvN_ok fun _ _ _ _ h hp => dv_by h hp
theorem full_bits {m k : Nat} (hk : k < m) : Nat.testBit (2 ^ m - 1) k = true := by
  have := cplN (n := m) (s := 0) (Nat.two_pow_pos m) k
  rw [Nat.sub_zero] at this
  rw [this, Nat.zero_testBit, decide_eq_true hk]; rfl
def tTot : Tab
  | [.sl .i64 x] => some (x.length ≤ 5 ∧ b5 x = true, .i (wV x (2 ^ x.length - 1) x.length), [])
  | _ => none
theorem total_ok : Fits Try.prog 42 tTot := by
  refine ⟨callable_of Try.func42 (by kernel_rfl) rfl, ?_⟩
  intro args p out Ho h hp
  unfold tTot at h
  split at h <;> cases h
  rename_i x
  refine ⟨acall_by (env_ok (env := []) (by simp)) Try.func42 rfl rfl rfl rfl rfl ?_, rfl, rfl⟩
  intro hlen c hc hX
  simp only [lensOk, AV.lenOk, true_and, and_true] at hlen
  simp only [Try.ntmps42, Try.results42, List.length_cons, List.length_nil, List.replicate, List.cons_append, List.nil_append, Nat.reduceAdd, Nat.reduceSub]
  obtain ⟨hx, hb⟩ := hp
  repeat' first | ((with_reducible show aol _ _ _ _ _); first | (refine aol_guard_f (by rfl) ?_ ?_; (focus (simp only [go_sem]; done))) | (refine aol_guard_un (by rfl) ?_ ?_; (focus (simp only [go_sem]; done)))) | ((with_reducible refine hK _ ?_); clear hK K; try simp only [nxA, nxB]) | (with_reducible refine awp_seq fun K hK => ?_) | ((first | ((with_reducible show aol _ _ _ _ _); try first | (refine aol_guard_t (by rfl) ?_ ?_; (focus (simp only [go_sem]; done))) | (refine aol_guard_b (by rfl) (by rfl) (fun h => ?_) (fun h => ?_) <;> (try simp only [hsA, hsB, hsC, hsD, hsE, List.all_cons, List.all_nil, ne_eq, reduceCtorEq] at h))) | ((with_reducible show Awp _ _ (Code.region _ _ _) _ _); first | refine awp_regK (by repeat constructor) (fun K hK => ?_) | (refine awp_drwK (by kernel_rfl) (by repeat constructor) (fun K hK => ?_)))) <;> simp (config := { maxSteps := 2000000 }) (disch := omega) only [go_sem, ↓reduceIte, Nat.reduceEqDiff, Nat.reduceAdd, Nat.reduceLT, Nat.reduceLeDiff, Nat.reduceSub]) | ((with_reducible show Awp _ _ (Code.cond _ _ _) _ _); refine awp_cond rfl (fun h => ?_) (fun h => ?_) <;> (try simp only [hsA, hsB, hsC, hsD, hsE, List.all_cons, List.all_nil, ne_eq, reduceCtorEq] at h)) | ((with_reducible first | refine awp_skip ?_ | refine awp_ret ?_); simp only [nxA, nxB]) | (with_reducible refine awp_block ?_) | ((with_reducible refine awp_exit ?_); simp only [nxA, ne_eq, not_false_eq_true, Nat.reduceEqDiff, reduceCtorEq]; try ((first | refine hK _ ?_ | (clear hK K; first | refine hK _ ?_ | (clear hK K; first | refine hK _ ?_ | (clear hK K; refine hK _ ?_)))); clear hK K)) | (with_reducible first | apply And.intro | exact True.intro) | ((with_reducible first | show List.all _ _ = true | show lendOk _ _ = true); rfl) | omega | ((with_reducible first | show ¬ _ | show _ → _); intro h; first | contradiction | cases h; done | skip)
  all_goals (try (first | refine fin_keep ?_ | refine finm_keep ?_; repeat clear hK))
  refine awp_for (fun st (k : Nat) => st.at [0] [(3, .i (wV x (2 ^ x.length - 1) k)), (4, .i k)] st.hp) (fun k => k ≤ x.length) (fun k => x.length - k) 0 (Nat.zero_le _) ?_ ?_
  · simp [-List.getD_eq_getElem?_getD, -List.length_take, Le, leFr, ASt.at, keepFr, updAll, upd_zero, upd_succ, wV]
  rintro k hk
  simp only [ASt.at, keepFr, updAll, upd_zero, upd_succ, List.mem_cons, List.not_mem_nil, Nat.reduceEqDiff, Nat.reduceAdd, or_false, or_true, false_or, true_or, ↓reduceIte, eq_self]
  have h1 := wV_bd hb (2 ^ x.length - 1) k
  have h2 := getD_bd' (M := 5000) (by omega) hb k
  by_cases hkl : k < x.length
  · have e := wV_1 (x := x) (full_bits hkl)
    repeat' first | ((with_reducible show aol _ _ _ _ _); first | (refine aol_guard_f (by rfl) ?_ ?_; (focus (simp only [go_sem]; done))) | (refine aol_guard_un (by rfl) ?_ ?_; (focus (simp only [go_sem]; done)))) | ((with_reducible refine hK _ ?_); clear hK K; try simp only [nxA, nxB]) | (with_reducible refine awp_seq fun K hK => ?_) | ((first | ((with_reducible show aol _ _ _ _ _); try first | (refine aol_guard_t (by rfl) ?_ ?_; (focus (simp only [go_sem]; done))) | (refine aol_guard_b (by rfl) (by rfl) (fun h => ?_) (fun h => ?_) <;> (try simp only [hsA, hsB, hsC, hsD, hsE, List.all_cons, List.all_nil, ne_eq, reduceCtorEq] at h))) | ((with_reducible show Awp _ _ (Code.region _ _ _) _ _); first | refine awp_regK (by repeat constructor) (fun K hK => ?_) | (refine awp_drwK (by kernel_rfl) (by repeat constructor) (fun K hK => ?_)))) <;> simp (config := { maxSteps := 2000000 }) (disch := omega) only [go_sem, ↓reduceIte, Nat.reduceEqDiff, Nat.reduceAdd, Nat.reduceLT, Nat.reduceLeDiff, Nat.reduceSub]) | ((with_reducible show Awp _ _ (Code.cond _ _ _) _ _); refine awp_cond rfl (fun h => ?_) (fun h => ?_) <;> (try simp only [hsA, hsB, hsC, hsD, hsE, List.all_cons, List.all_nil, ne_eq, reduceCtorEq] at h)) | ((with_reducible first | refine awp_skip ?_ | refine awp_ret ?_); simp only [nxA, nxB]) | (with_reducible refine awp_block ?_) | ((with_reducible refine awp_exit ?_); simp only [nxA, ne_eq, not_false_eq_true, Nat.reduceEqDiff, reduceCtorEq]; try ((first | refine hK _ ?_ | (clear hK K; first | refine hK _ ?_ | (clear hK K; first | refine hK _ ?_ | (clear hK K; refine hK _ ?_)))); clear hK K)) | (with_reducible first | apply And.intro | exact True.intro) | ((with_reducible first | show List.all _ _ = true | show lendOk _ _ = true); rfl) | omega | ((with_reducible first | show ¬ _ | show _ → _); intro h; first | contradiction | cases h; done | skip)
    all_goals (try (first | refine fin_keep ?_ | refine finm_keep ?_; repeat clear hK))
    refine ⟨k + 1, by omega, by omega, ?_⟩
    simp [-List.getD_eq_getElem?_getD, -List.length_take, Le, leFr, ASt.at, keepFr, updAll, upd_zero, upd_succ, e]
  · obtain rfl : k = x.length := by omega
    repeat' first | ((with_reducible show aol _ _ _ _ _); first | (refine aol_guard_f (by rfl) ?_ ?_; (focus (simp only [go_sem]; done))) | (refine aol_guard_un (by rfl) ?_ ?_; (focus (simp only [go_sem]; done)))) | ((with_reducible refine hK _ ?_); clear hK K; try simp only [nxA, nxB]) | (with_reducible refine awp_seq fun K hK => ?_) | ((first | ((with_reducible show aol _ _ _ _ _); try first | (refine aol_guard_t (by rfl) ?_ ?_; (focus (simp only [go_sem]; done))) | (refine aol_guard_b (by rfl) (by rfl) (fun h => ?_) (fun h => ?_) <;> (try simp only [hsA, hsB, hsC, hsD, hsE, List.all_cons, List.all_nil, ne_eq, reduceCtorEq] at h))) | ((with_reducible show Awp _ _ (Code.region _ _ _) _ _); first | refine awp_regK (by repeat constructor) (fun K hK => ?_) | (refine awp_drwK (by kernel_rfl) (by repeat constructor) (fun K hK => ?_)))) <;> simp (config := { maxSteps := 2000000 }) (disch := omega) only [go_sem, ↓reduceIte, Nat.reduceEqDiff, Nat.reduceAdd, Nat.reduceLT, Nat.reduceLeDiff, Nat.reduceSub]) | ((with_reducible show Awp _ _ (Code.cond _ _ _) _ _); refine awp_cond rfl (fun h => ?_) (fun h => ?_) <;> (try simp only [hsA, hsB, hsC, hsD, hsE, List.all_cons, List.all_nil, ne_eq, reduceCtorEq] at h)) | ((with_reducible first | refine awp_skip ?_ | refine awp_ret ?_); simp only [nxA, nxB]) | (with_reducible refine awp_block ?_) | ((with_reducible refine awp_exit ?_); simp only [nxA, ne_eq, not_false_eq_true, Nat.reduceEqDiff, reduceCtorEq]; try ((first | refine hK _ ?_ | (clear hK K; first | refine hK _ ?_ | (clear hK K; first | refine hK _ ?_ | (clear hK K; refine hK _ ?_)))); clear hK K)) | (with_reducible first | apply And.intro | exact True.intro) | ((with_reducible first | show List.all _ _ = true | show lendOk _ _ = true); rfl) | omega | ((with_reducible first | show ¬ _ | show _ → _); intro h; first | contradiction | cases h; done | skip)
    all_goals (try (first | refine fin_keep ?_ | refine finm_keep ?_; repeat clear hK))
    exact fin_tmp rfl rfl
end Go.Proofs.Ytjlpjkiadohkiaa
