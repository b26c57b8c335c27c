import Derived.Test.YtjlpjkiadohkiaaHs
import Derived.Test.YtjlpjkiadohkiaaT30
set_option linter.unusedSimpArgs false
set_option linter.unusedVariables false
set_option maxHeartbeats 2000000
namespace Go.Proofs.Ytjlpjkiadohkiaa
open Go Go.Ab
attribute [local irreducible] aol
attribute [local irreducible] popN


def b5 (x : List Int) : Bool := x.all fun x => inR x (-5000) 5000
def blPre (n : Int) (l x : List Int) : Prop := grV n l = true ∧ (x.length : Int) = n ∧ b5 x = true
def belV (l x : List Int) : Bool := (List.range l.length).all fun s => !decide (l.getD s 0 < wV x s x.length)
theorem gr_fn {n : Int} {l : List Int} (h : grV n l = true) : fnV n l = true := by unfold grV at h; rw [Bool.and_eq_true] at h; exact h.1
def tSlack : Tab
  | [.ag [.i n, .sl .i64 l], .sl .i64 x, .i s] => some (blPre n l x ∧ (0 ≤ s ∧ s < l.length), .i (l.getD s.toNat 0 - wV x s.toNat x.length), [])
  | _ => none
theorem bl_facts {n : Int} {l x : List Int} (h : blPre n l x) : (x.length ≤ 6 ∧ (x.all fun x => inR x (-5000) 5000) = true) ∧ l.length ≤ 32 ∧ fnV n l = true := by
  have hf := gr_fn h.1
  have hf' := fnV_iff.1 hf
  have hlen := fnV_len hf
  have hp6 : 2 ^ n.toNat ≤ 32 := Nat.le_trans (Nat.pow_le_pow_right (by omega) (show n.toNat ≤ 5 by omega)) (by decide)
  have := h.2.1
  exact ⟨⟨by omega, h.2.2⟩, by omega, hf⟩
theorem slack_ok : Fits Try.prog 152 tSlack := by
  refine ⟨callable_of Try.func152 (by kernel_rfl) rfl, ?_⟩
  intro args p out Ho h hp
  unfold tSlack at h
  split at h <;> cases h
  rename_i n l x s
  refine ⟨acall_by (env_ok (env := [(146, tWt)]) (by simp only [List.forall_mem_cons, List.not_mem_nil, false_implies, implies_true, and_true]; exact implWt_ok)) Try.func152 rfl rfl rfl rfl rfl ?_, rfl, rfl⟩
  intro hlen c hc hX
  simp only [lensOk, AV.lenOk, true_and, and_true] at hlen
  simp only [Try.ntmps152, Try.results152, List.length_cons, List.length_nil, List.replicate, List.cons_append, List.nil_append, Nat.reduceAdd, Nat.reduceSub]
  obtain ⟨hb, hs⟩ := hp
  obtain ⟨⟨hx6, hx5⟩, hl32, hf⟩ := bl_facts hb
  have hf' := fnV_iff.1 hf
  obtain ⟨s, rfl⟩ := Int.eq_ofNat_of_zero_le hs.1
  have h1 := wV_bd hx5 s x.length
  have h2 := getD_bd hf'.2.2 s
  repeat' first | ((with_reducible show aol _ _ _ _ _); first | (refine aol_guard_f (by rfl) ?_ ?_; (focus (simp only [go_sem]; done))) | (refine aol_guard_un (by rfl) ?_ ?_; (focus (simp only [go_sem]; done)))) | ((with_reducible refine hK _ ?_); clear hK K; try simp only [nxA, nxB]) | (with_reducible refine awp_seq fun K hK => ?_) | ((first | ((with_reducible show aol _ _ _ _ _); try first | (refine aol_guard_t (by rfl) ?_ ?_; (focus (simp only [go_sem]; done))) | (refine aol_guard_b (by rfl) (by rfl) (fun h => ?_) (fun h => ?_) <;> (try simp only [hsA, hsB, hsC, hsD, hsE, List.all_cons, List.all_nil, ne_eq, reduceCtorEq] at h))) | ((with_reducible show Awp _ _ (Code.region _ _ _) _ _); first | refine awp_regK (by repeat constructor) (fun K hK => ?_) | (refine awp_drwK (by kernel_rfl) (by repeat constructor) (fun K hK => ?_)))) <;> simp (config := { maxSteps := 2000000 }) (disch := omega) only [go_sem, ↓reduceIte, Nat.reduceEqDiff, Nat.reduceAdd, Nat.reduceLT, Nat.reduceLeDiff, Nat.reduceSub, tWt, hx5]) | ((with_reducible show Awp _ _ (Code.cond _ _ _) _ _); refine awp_cond rfl (fun h => ?_) (fun h => ?_) <;> (try simp only [hsA, hsB, hsC, hsD, hsE, List.all_cons, List.all_nil, ne_eq, reduceCtorEq] at h)) | ((with_reducible first | refine awp_skip ?_ | refine awp_ret ?_); simp only [nxA, nxB]) | (with_reducible refine awp_block ?_) | ((with_reducible refine awp_exit ?_); simp only [nxA, ne_eq, not_false_eq_true, Nat.reduceEqDiff, reduceCtorEq]; try ((first | refine hK _ ?_ | (clear hK K; first | refine hK _ ?_ | (clear hK K; first | refine hK _ ?_ | (clear hK K; refine hK _ ?_)))); clear hK K)) | (with_reducible first | apply And.intro | exact True.intro) | ((with_reducible first | show List.all _ _ = true | show lendOk _ _ = true); rfl) | omega | ((with_reducible first | show ¬ _ | show _ → _); intro h; first | contradiction | cases h; done | skip)
  all_goals (try (first | refine fin_keep ?_ | refine finm_keep ?_; repeat clear hK))
  refine fin_tmp rfl ?_; simp only [nth_zero, nth_succ, Int.toNat_natCast]
def tLong : Tab
  | [.ag [.i n, .sl .i64 l], .sl .i64 x] => some (blPre n l x, .b true, [])
  | _ => none
theorem long_ok : Fits Try.prog 151 tLong := by
  refine ⟨callable_of Try.func151 (by kernel_rfl) rfl, ?_⟩
  intro args p out Ho h hp
  unfold tLong at h
  split at h <;> cases h
  rename_i n l x
  refine ⟨acall_by (env_ok (env := [(181, tAreW)]) (by simp only [List.forall_mem_cons, List.not_mem_nil, false_implies, implies_true, and_true]; exact areW_ok)) Try.func151 rfl rfl rfl rfl rfl ?_, rfl, rfl⟩
  intro hlen c hc hX
  simp only [lensOk, AV.lenOk, true_and, and_true] at hlen
  simp only [Try.ntmps151, Try.results151, List.length_cons, List.length_nil, List.replicate, List.cons_append, List.nil_append, Nat.reduceAdd, Nat.reduceSub]
  obtain ⟨⟨hx6, hx5⟩, hl32, hf⟩ := bl_facts hp
  have hn := hp.2.1
  repeat' first | ((with_reducible show aol _ _ _ _ _); first | (refine aol_guard_f (by rfl) ?_ ?_; (focus (simp only [go_sem]; done))) | (refine aol_guard_un (by rfl) ?_ ?_; (focus (simp only [go_sem]; done)))) | ((with_reducible refine hK _ ?_); clear hK K; try simp only [nxA, nxB]) | (with_reducible refine awp_seq fun K hK => ?_) | ((first | ((with_reducible show aol _ _ _ _ _); try first | (refine aol_guard_t (by rfl) ?_ ?_; (focus (simp only [go_sem]; done))) | (refine aol_guard_b (by rfl) (by rfl) (fun h => ?_) (fun h => ?_) <;> (try simp only [hsA, hsB, hsC, hsD, hsE, List.all_cons, List.all_nil, ne_eq, reduceCtorEq] at h))) | ((with_reducible show Awp _ _ (Code.region _ _ _) _ _); first | refine awp_regK (by repeat constructor) (fun K hK => ?_) | (refine awp_drwK (by kernel_rfl) (by repeat constructor) (fun K hK => ?_)))) <;> simp (config := { maxSteps := 2000000 }) (disch := omega) only [go_sem, ↓reduceIte, Nat.reduceEqDiff, Nat.reduceAdd, Nat.reduceLT, Nat.reduceLeDiff, Nat.reduceSub, hn, tAreW, hx5]) | ((with_reducible show Awp _ _ (Code.cond _ _ _) _ _); refine awp_cond rfl (fun h => ?_) (fun h => ?_) <;> (try simp only [hsA, hsB, hsC, hsD, hsE, List.all_cons, List.all_nil, ne_eq, reduceCtorEq] at h)) | ((with_reducible first | refine awp_skip ?_ | refine awp_ret ?_); simp only [nxA, nxB]) | (with_reducible refine awp_block ?_) | ((with_reducible refine awp_exit ?_); simp only [nxA, ne_eq, not_false_eq_true, Nat.reduceEqDiff, reduceCtorEq]; try ((first | refine hK _ ?_ | (clear hK K; first | refine hK _ ?_ | (clear hK K; first | refine hK _ ?_ | (clear hK K; refine hK _ ?_)))); clear hK K)) | (with_reducible first | apply And.intro | exact True.intro) | ((with_reducible first | show List.all _ _ = true | show lendOk _ _ = true); rfl) | omega | ((with_reducible first | show ¬ _ | show _ → _); intro h; first | contradiction | cases h; done | skip)
  all_goals (try (first | refine fin_keep ?_ | refine finm_keep ?_; repeat clear hK))
  refine fin_tmp rfl ?_; rfl
def tBlw : Tab
  | [.ag [.i n, .sl .i64 l], .sl .i64 x] => some (blPre n l x, .b (belV l x), [])
  | _ => none
theorem implBel_ok : Fits Try.prog 41 tBlw := by
  refine ⟨callable_of Try.func41 (by kernel_rfl) rfl, ?_⟩
  intro args p out Ho h hp
  unfold tBlw at h
  split at h <;> cases h
  rename_i n l x
  refine ⟨acall_by (env_ok (env := [(96, tIsGr), (151, tLong), (152, tSlack)]) (by simp only [List.forall_mem_cons, List.not_mem_nil, false_implies, implies_true, and_true]; exact ⟨implIsGr_ok, long_ok, slack_ok⟩)) Try.func41 rfl rfl rfl rfl rfl ?_, rfl, rfl⟩
  intro hlen c hc hX
  simp only [lensOk, AV.lenOk, true_and, and_true] at hlen
  simp only [Try.ntmps41, Try.results41, List.length_cons, List.length_nil, List.replicate, List.cons_append, List.nil_append, Nat.reduceAdd, Nat.reduceSub]
  have hpre : blPre n l x = True := eq_true hp
  have hg := hp.1
  obtain ⟨⟨hx6, hx5⟩, hl32, hf⟩ := bl_facts hp
  repeat' first | ((with_reducible show aol _ _ _ _ _); first | (refine aol_guard_f (by rfl) ?_ ?_; (focus (simp only [go_sem]; done))) | (refine aol_guard_un (by rfl) ?_ ?_; (focus (simp only [go_sem]; done)))) | ((with_reducible refine hK _ ?_); clear hK K; try simp only [nxA, nxB]) | (with_reducible refine awp_seq fun K hK => ?_) | ((first | ((with_reducible show aol _ _ _ _ _); try first | (refine aol_guard_t (by rfl) ?_ ?_; (focus (simp only [go_sem]; done))) | (refine aol_guard_b (by rfl) (by rfl) (fun h => ?_) (fun h => ?_) <;> (try simp only [hsA, hsB, hsC, hsD, hsE, List.all_cons, List.all_nil, ne_eq, reduceCtorEq] at h))) | ((with_reducible show Awp _ _ (Code.region _ _ _) _ _); first | refine awp_regK (by repeat constructor) (fun K hK => ?_) | (refine awp_drwK (by kernel_rfl) (by repeat constructor) (fun K hK => ?_)))) <;> simp (config := { maxSteps := 2000000 }) (disch := omega) only [go_sem, ↓reduceIte, Nat.reduceEqDiff, Nat.reduceAdd, Nat.reduceLT, Nat.reduceLeDiff, Nat.reduceSub, tIsGr, hg, tLong, hpre]) | ((with_reducible show Awp _ _ (Code.cond _ _ _) _ _); refine awp_cond rfl (fun h => ?_) (fun h => ?_) <;> (try simp only [hsA, hsB, hsC, hsD, hsE, List.all_cons, List.all_nil, ne_eq, reduceCtorEq] at h)) | ((with_reducible first | refine awp_skip ?_ | refine awp_ret ?_); simp only [nxA, nxB]) | (with_reducible refine awp_block ?_) | ((with_reducible refine awp_exit ?_); simp only [nxA, ne_eq, not_false_eq_true, Nat.reduceEqDiff, reduceCtorEq]; try ((first | refine hK _ ?_ | (clear hK K; first | refine hK _ ?_ | (clear hK K; first | refine hK _ ?_ | (clear hK K; refine hK _ ?_)))); clear hK K)) | (with_reducible first | apply And.intro | exact True.intro) | ((with_reducible first | show List.all _ _ = true | show lendOk _ _ = true); rfl) | omega | ((with_reducible first | show ¬ _ | show _ → _); intro h; first | contradiction | cases h; done | skip)
  all_goals (try (first | refine fin_keep ?_ | refine finm_keep ?_; repeat clear hK))
  refine awp_for (fun st (s : Nat) => st.at [1, 2, 17] [(18, .i s)] st.hp) (fun s => s ≤ l.length ∧ (List.range s).all (fun s => !decide (l.getD s 0 < wV x s x.length)) = true) (fun s => l.length - s) 0 ⟨Nat.zero_le _, by simp⟩ ?_ ?_
  · simp [-List.getD_eq_getElem?_getD, -List.length_take, Le, leFr, ASt.at, keepFr, updAll, upd_zero, upd_succ]
  rintro s ⟨hs, ha⟩
  simp only [ASt.at, keepFr, updAll, upd_zero, upd_succ, List.mem_cons, List.not_mem_nil, Nat.reduceEqDiff, Nat.reduceAdd, or_false, or_true, false_or, true_or, ↓reduceIte, eq_self]
  repeat' first | ((with_reducible show aol _ _ _ _ _); first | (refine aol_guard_f (by rfl) ?_ ?_; (focus (simp only [go_sem]; done))) | (refine aol_guard_un (by rfl) ?_ ?_; (focus (simp only [go_sem]; done)))) | ((with_reducible refine hK _ ?_); clear hK K; try simp only [nxA, nxB]) | (with_reducible refine awp_seq fun K hK => ?_) | ((first | ((with_reducible show aol _ _ _ _ _); try first | (refine aol_guard_t (by rfl) ?_ ?_; (focus (simp only [go_sem]; done))) | (refine aol_guard_b (by rfl) (by rfl) (fun h => ?_) (fun h => ?_) <;> (try simp only [hsA, hsB, hsC, hsD, hsE, List.all_cons, List.all_nil, ne_eq, reduceCtorEq] at h))) | ((with_reducible show Awp _ _ (Code.region _ _ _) _ _); first | refine awp_regK (by repeat constructor) (fun K hK => ?_) | (refine awp_drwK (by kernel_rfl) (by repeat constructor) (fun K hK => ?_)))) <;> simp (config := { maxSteps := 2000000 }) (disch := omega) only [go_sem, ↓reduceIte, Nat.reduceEqDiff, Nat.reduceAdd, Nat.reduceLT, Nat.reduceLeDiff, Nat.reduceSub, tSlack, hpre]) | ((with_reducible show Awp _ _ (Code.cond _ _ _) _ _); refine awp_cond rfl (fun h => ?_) (fun h => ?_) <;> (try simp only [hsA, hsB, hsC, hsD, hsE, List.all_cons, List.all_nil, ne_eq, reduceCtorEq] at h)) | ((with_reducible first | refine awp_skip ?_ | refine awp_ret ?_); simp only [nxA, nxB]) | (with_reducible refine awp_block ?_) | ((with_reducible refine awp_exit ?_); simp only [nxA, ne_eq, not_false_eq_true, Nat.reduceEqDiff, reduceCtorEq]; try ((first | refine hK _ ?_ | (clear hK K; first | refine hK _ ?_ | (clear hK K; first | refine hK _ ?_ | (clear hK K; refine hK _ ?_)))); clear hK K)) | (with_reducible first | apply And.intro | exact True.intro) | ((with_reducible first | show List.all _ _ = true | show lendOk _ _ = true); rfl) | omega | ((with_reducible first | show ¬ _ | show _ → _); intro h; first | contradiction | cases h; done | skip)
  all_goals (try (first | refine fin_keep ?_ | refine finm_keep ?_; repeat clear hK))
  · refine fin_tmp rfl ?_; simp only [nth_zero, nth_succ]; rw [belV, allR_no (k := s) (by omega) (by rw [decide_eq_true (by omega)]; rfl)]
  · refine ⟨s + 1, ⟨by omega, allR_succ ha (by rw [decide_eq_false (by omega)]; rfl)⟩, by omega, ?_⟩
    simp [-List.getD_eq_getElem?_getD, -List.length_take, Le, leFr, ASt.at, keepFr, updAll, upd_zero, upd_succ]
  · obtain rfl : s = l.length := by omega
    refine fin_tmp rfl ?_; simp only [nth_zero, nth_succ]; rw [belV, ha]
def tVec8 : Tab
  | [.sl .i64 x] => some (x.length ≤ 5 ∧ b5 x = true, .b true, [])
  | _ => none
theorem vec8_ok : Fits Try.prog 203 tVec8 := by
  refine ⟨callable_of Try.func203 (by kernel_rfl) rfl, ?_⟩
  intro args p out Ho h hp
  unfold tVec8 at h
  split at h <;> cases h
  rename_i x
  refine ⟨acall_by (env_ok (env := [(125, tWithin)]) (by simp only [List.forall_mem_cons, List.not_mem_nil, false_implies, implies_true, and_true]; exact specIn_ok)) Try.func203 rfl rfl rfl rfl rfl ?_, rfl, rfl⟩
  intro hlen c hc hX
  simp only [lensOk, AV.lenOk, true_and, and_true] at hlen
  simp only [Try.ntmps203, Try.results203, List.length_cons, List.length_nil, List.replicate, List.cons_append, List.nil_append, Nat.reduceAdd, Nat.reduceSub]
  obtain ⟨hx, hb⟩ := hp
  repeat' first | ((with_reducible show aol _ _ _ _ _); first | (refine aol_guard_f (by rfl) ?_ ?_; (focus (simp only [go_sem]; done))) | (refine aol_guard_un (by rfl) ?_ ?_; (focus (simp only [go_sem]; done)))) | ((with_reducible refine hK _ ?_); clear hK K; try simp only [nxA, nxB]) | (with_reducible refine awp_seq fun K hK => ?_) | ((first | ((with_reducible show aol _ _ _ _ _); try first | (refine aol_guard_t (by rfl) ?_ ?_; (focus (simp only [go_sem]; done))) | (refine aol_guard_b (by rfl) (by rfl) (fun h => ?_) (fun h => ?_) <;> (try simp only [hsA, hsB, hsC, hsD, hsE, List.all_cons, List.all_nil, ne_eq, reduceCtorEq] at h))) | ((with_reducible show Awp _ _ (Code.region _ _ _) _ _); first | refine awp_regK (by repeat constructor) (fun K hK => ?_) | (refine awp_drwK (by kernel_rfl) (by repeat constructor) (fun K hK => ?_)))) <;> simp (config := { maxSteps := 2000000 }) (disch := omega) only [go_sem, ↓reduceIte, Nat.reduceEqDiff, Nat.reduceAdd, Nat.reduceLT, Nat.reduceLeDiff, Nat.reduceSub]) | ((with_reducible show Awp _ _ (Code.cond _ _ _) _ _); refine awp_cond rfl (fun h => ?_) (fun h => ?_) <;> (try simp only [hsA, hsB, hsC, hsD, hsE, List.all_cons, List.all_nil, ne_eq, reduceCtorEq] at h)) | ((with_reducible first | refine awp_skip ?_ | refine awp_ret ?_); simp only [nxA, nxB]) | (with_reducible refine awp_block ?_) | ((with_reducible refine awp_exit ?_); simp only [nxA, ne_eq, not_false_eq_true, Nat.reduceEqDiff, reduceCtorEq]; try ((first | refine hK _ ?_ | (clear hK K; first | refine hK _ ?_ | (clear hK K; first | refine hK _ ?_ | (clear hK K; refine hK _ ?_)))); clear hK K)) | (with_reducible first | apply And.intro | exact True.intro) | ((with_reducible first | show List.all _ _ = true | show lendOk _ _ = true); rfl) | omega | ((with_reducible first | show ¬ _ | show _ → _); intro h; first | contradiction | cases h; done | skip)
  all_goals (try (first | refine fin_keep ?_ | refine finm_keep ?_; repeat clear hK))
  refine awp_for (fun st (s : Nat) => st.at [0] [(3, .i s)] st.hp) (fun s => s ≤ x.length) (fun s => x.length - s) 0 (Nat.zero_le _) ?_ ?_
  · simp [-List.getD_eq_getElem?_getD, -List.length_take, Le, leFr, ASt.at, keepFr, updAll, upd_zero, upd_succ]
  rintro s hs
  simp only [ASt.at, keepFr, updAll, upd_zero, upd_succ, List.mem_cons, List.not_mem_nil, Nat.reduceEqDiff, Nat.reduceAdd, or_false, or_true, false_or, true_or, ↓reduceIte, eq_self]
  have hbd := getD_bd' (M := 5000) (by omega) hb s
  repeat' first | ((with_reducible show aol _ _ _ _ _); first | (refine aol_guard_f (by rfl) ?_ ?_; (focus (simp only [go_sem]; done))) | (refine aol_guard_un (by rfl) ?_ ?_; (focus (simp only [go_sem]; done)))) | ((with_reducible refine hK _ ?_); clear hK K; try simp only [nxA, nxB]) | (with_reducible refine awp_seq fun K hK => ?_) | ((first | ((with_reducible show aol _ _ _ _ _); try first | (refine aol_guard_t (by rfl) ?_ ?_; (focus (simp only [go_sem]; done))) | (refine aol_guard_b (by rfl) (by rfl) (fun h => ?_) (fun h => ?_) <;> (try simp only [hsA, hsB, hsC, hsD, hsE, List.all_cons, List.all_nil, ne_eq, reduceCtorEq] at h))) | ((with_reducible show Awp _ _ (Code.region _ _ _) _ _); first | refine awp_regK (by repeat constructor) (fun K hK => ?_) | (refine awp_drwK (by kernel_rfl) (by repeat constructor) (fun K hK => ?_)))) <;> simp (config := { maxSteps := 2000000 }) (disch := omega) only [go_sem, ↓reduceIte, Nat.reduceEqDiff, Nat.reduceAdd, Nat.reduceLT, Nat.reduceLeDiff, Nat.reduceSub, tWithin]) | ((with_reducible show Awp _ _ (Code.cond _ _ _) _ _); refine awp_cond rfl (fun h => ?_) (fun h => ?_) <;> (try simp only [hsA, hsB, hsC, hsD, hsE, List.all_cons, List.all_nil, ne_eq, reduceCtorEq] at h)) | ((with_reducible first | refine awp_skip ?_ | refine awp_ret ?_); simp only [nxA, nxB]) | (with_reducible refine awp_block ?_) | ((with_reducible refine awp_exit ?_); simp only [nxA, ne_eq, not_false_eq_true, Nat.reduceEqDiff, reduceCtorEq]; try ((first | refine hK _ ?_ | (clear hK K; first | refine hK _ ?_ | (clear hK K; first | refine hK _ ?_ | (clear hK K; refine hK _ ?_)))); clear hK K)) | (with_reducible first | apply And.intro | exact True.intro) | ((with_reducible first | show List.all _ _ = true | show lendOk _ _ = true); rfl) | omega | ((with_reducible first | show ¬ _ | show _ → _); intro h; first | contradiction | cases h; done | skip)
  all_goals (try (first | refine fin_keep ?_ | refine finm_keep ?_; repeat clear hK))
  · refine ⟨s + 1, by omega, by omega, ?_⟩
    simp [-List.getD_eq_getElem?_getD, -List.length_take, Le, leFr, ASt.at, keepFr, updAll, upd_zero, upd_succ]
  · refine fin_tmp rfl ?_; simp only [nth_zero, nth_succ]; rw [decide_eq_true (by omega)]
theorem specBel_ok : Fits Try.prog 148 tBlw := by
  refine ⟨callable_of Try.func148 (by kernel_rfl) rfl, ?_⟩
  intro args p out Ho h hp
  unfold tBlw at h
  split at h <;> cases h
  rename_i n l x
  refine ⟨acall_by (env_ok (env := [(97, tIsGr), (203, tVec8), (147, tWt)]) (by simp only [List.forall_mem_cons, List.not_mem_nil, false_implies, implies_true, and_true]; exact ⟨specIsGr_ok, vec8_ok, specWt_ok⟩)) Try.func148 rfl rfl rfl rfl rfl ?_, rfl, rfl⟩
  intro hlen c hc hX
  simp only [lensOk, AV.lenOk, true_and, and_true] at hlen
  simp only [Try.ntmps148, Try.results148, List.length_cons, List.length_nil, List.replicate, List.cons_append, List.nil_append, Nat.reduceAdd, Nat.reduceSub]
  have hg := hp.1
  have hn := hp.2.1
  have hb := hp.2.2
  obtain ⟨⟨hx6, hx5⟩, hl32, hf⟩ := bl_facts hp
  have hf' := fnV_iff.1 hf
  repeat' first | ((with_reducible show aol _ _ _ _ _); first | (refine aol_guard_f (by rfl) ?_ ?_; (focus (simp only [go_sem]; done))) | (refine aol_guard_un (by rfl) ?_ ?_; (focus (simp only [go_sem]; done)))) | ((with_reducible refine hK _ ?_); clear hK K; try simp only [nxA, nxB]) | (with_reducible refine awp_seq fun K hK => ?_) | ((first | ((with_reducible show aol _ _ _ _ _); try first | (refine aol_guard_t (by rfl) ?_ ?_; (focus (simp only [go_sem]; done))) | (refine aol_guard_b (by rfl) (by rfl) (fun h => ?_) (fun h => ?_) <;> (try simp only [hsA, hsB, hsC, hsD, hsE, List.all_cons, List.all_nil, ne_eq, reduceCtorEq] at h))) | ((with_reducible show Awp _ _ (Code.region _ _ _) _ _); first | refine awp_regK (by repeat constructor) (fun K hK => ?_) | (refine awp_drwK (by kernel_rfl) (by repeat constructor) (fun K hK => ?_)))) <;> simp (config := { maxSteps := 2000000 }) (disch := omega) only [go_sem, ↓reduceIte, Nat.reduceEqDiff, Nat.reduceAdd, Nat.reduceLT, Nat.reduceLeDiff, Nat.reduceSub, tIsGr, hg, hn, tVec8, hb]) | ((with_reducible show Awp _ _ (Code.cond _ _ _) _ _); refine awp_cond rfl (fun h => ?_) (fun h => ?_) <;> (try simp only [hsA, hsB, hsC, hsD, hsE, List.all_cons, List.all_nil, ne_eq, reduceCtorEq] at h)) | ((with_reducible first | refine awp_skip ?_ | refine awp_ret ?_); simp only [nxA, nxB]) | (with_reducible refine awp_block ?_) | ((with_reducible refine awp_exit ?_); simp only [nxA, ne_eq, not_false_eq_true, Nat.reduceEqDiff, reduceCtorEq]; try ((first | refine hK _ ?_ | (clear hK K; first | refine hK _ ?_ | (clear hK K; first | refine hK _ ?_ | (clear hK K; refine hK _ ?_)))); clear hK K)) | (with_reducible first | apply And.intro | exact True.intro) | ((with_reducible first | show List.all _ _ = true | show lendOk _ _ = true); rfl) | omega | ((with_reducible first | show ¬ _ | show _ → _); intro h; first | contradiction | cases h; done | skip)
  all_goals (try (first | refine fin_keep ?_ | refine finm_keep ?_; repeat clear hK))
  refine awp_for (fun st (s : Nat) => st.at [1, 2] [(5, .i s)] st.hp) (fun s => s ≤ l.length ∧ (List.range s).all (fun s => !decide (l.getD s 0 < wV x s x.length)) = true) (fun s => l.length - s) 0 ⟨Nat.zero_le _, by simp⟩ ?_ ?_
  · simp [-List.getD_eq_getElem?_getD, -List.length_take, Le, leFr, ASt.at, keepFr, updAll, upd_zero, upd_succ]
  rintro s ⟨hs, ha⟩
  simp only [ASt.at, keepFr, updAll, upd_zero, upd_succ, List.mem_cons, List.not_mem_nil, Nat.reduceEqDiff, Nat.reduceAdd, or_false, or_true, false_or, true_or, ↓reduceIte, eq_self]
  repeat' first | ((with_reducible show aol _ _ _ _ _); first | (refine aol_guard_f (by rfl) ?_ ?_; (focus (simp only [go_sem]; done))) | (refine aol_guard_un (by rfl) ?_ ?_; (focus (simp only [go_sem]; done)))) | ((with_reducible refine hK _ ?_); clear hK K; try simp only [nxA, nxB]) | (with_reducible refine awp_seq fun K hK => ?_) | ((first | ((with_reducible show aol _ _ _ _ _); try first | (refine aol_guard_t (by rfl) ?_ ?_; (focus (simp only [go_sem]; done))) | (refine aol_guard_b (by rfl) (by rfl) (fun h => ?_) (fun h => ?_) <;> (try simp only [hsA, hsB, hsC, hsD, hsE, List.all_cons, List.all_nil, ne_eq, reduceCtorEq] at h))) | ((with_reducible show Awp _ _ (Code.region _ _ _) _ _); first | refine awp_regK (by repeat constructor) (fun K hK => ?_) | (refine awp_drwK (by kernel_rfl) (by repeat constructor) (fun K hK => ?_)))) <;> simp (config := { maxSteps := 2000000 }) (disch := omega) only [go_sem, ↓reduceIte, Nat.reduceEqDiff, Nat.reduceAdd, Nat.reduceLT, Nat.reduceLeDiff, Nat.reduceSub, tWt, hx5]) | ((with_reducible show Awp _ _ (Code.cond _ _ _) _ _); refine awp_cond rfl (fun h => ?_) (fun h => ?_) <;> (try simp only [hsA, hsB, hsC, hsD, hsE, List.all_cons, List.all_nil, ne_eq, reduceCtorEq] at h)) | ((with_reducible first | refine awp_skip ?_ | refine awp_ret ?_); simp only [nxA, nxB]) | (with_reducible refine awp_block ?_) | ((with_reducible refine awp_exit ?_); simp only [nxA, ne_eq, not_false_eq_true, Nat.reduceEqDiff, reduceCtorEq]; try ((first | refine hK _ ?_ | (clear hK K; first | refine hK _ ?_ | (clear hK K; first | refine hK _ ?_ | (clear hK K; refine hK _ ?_)))); clear hK K)) | (with_reducible first | apply And.intro | exact True.intro) | ((with_reducible first | show List.all _ _ = true | show lendOk _ _ = true); rfl) | omega | ((with_reducible first | show ¬ _ | show _ → _); intro h; first | contradiction | cases h; done | skip)
  all_goals (try (first | refine fin_keep ?_ | refine finm_keep ?_; repeat clear hK))
  · refine fin_tmp rfl ?_; simp only [nth_zero, nth_succ]; rw [belV, allR_no (k := s) (by omega) (by rw [decide_eq_true (by omega)]; rfl)]
  · refine ⟨s + 1, ⟨by omega, allR_succ ha (by rw [decide_eq_false (by omega)]; rfl)⟩, by omega, ?_⟩
    simp [-List.getD_eq_getElem?_getD, -List.length_take, Le, leFr, ASt.at, keepFr, updAll, upd_zero, upd_succ]
  · obtain rfl : s = l.length := by omega
    refine fin_tmp rfl ?_; simp only [nth_zero, nth_succ]; rw [belV, ha]

def dgt (c j : Nat) : Nat := (c / 4 ^ j) % 4
def vcV (m c : Nat) : List Int := (List.range m).map fun e => (dgt c (m - 1 - e) : Int)
theorem vcV_len (m c : Nat) : (vcV m c).length = m := by simp [vcV]
theorem vcV_get {m c e : Nat} (h : e < m) : (vcV m c).getD e 0 = (dgt c (m - 1 - e) : Int) := by
  unfold vcV; rw [List.getD_eq_getElem?_getD, List.getElem?_map, List.getElem?_range h]; rfl
theorem dgt_all : ((List.range 256).all fun c => (List.range 4).all fun j => decide (iand (ishr (c : Int) ((2 * j : Nat) : Int)) 3 = (dgt c j : Int))) = true := by kernel_rfl
theorem dgt_eq {c j : Nat} (hc : c < 256) (hj : j < 4) : iand (ishr (c : Int) ((2 * j : Nat) : Int)) 3 = (dgt c j : Int) := of_decide_eq_true (List.all_eq_true.1 (List.all_eq_true.1 dgt_all c (List.mem_range.2 hc)) j (List.mem_range.2 hj))
theorem comp_all : ((List.range 5).all fun m => (List.range 256).all fun c => !decide (c < 4 ^ m) || (List.range m).all fun j => decide (dgt (4 ^ m - 1 - c) j = 3 - dgt c j)) = true := by kernel_rfl
theorem comp_eq {m c j : Nat} (hm : m < 5) (hc : c < 4 ^ m) (hj : j < m) : dgt (4 ^ m - 1 - c) j = 3 - dgt c j := by
  have h4 : 4 ^ m ≤ 256 := Nat.le_trans (Nat.pow_le_pow_right (by omega) (show m ≤ 4 by omega)) (by decide)
  have := List.all_eq_true.1 (List.all_eq_true.1 comp_all m (List.mem_range.2 hm)) c (List.mem_range.2 (by omega))
  rw [decide_eq_true hc, Bool.not_true, Bool.false_or] at this
  exact of_decide_eq_true (List.all_eq_true.1 this j (List.mem_range.2 hj))
theorem dgt_lt (c j : Nat) : dgt c j < 4 := Nat.mod_lt _ (by decide)
theorem vc_b5 (m c : Nat) : b5 (vcV m c) = true := by
  unfold b5 vcV
  rw [List.all_eq_true]
  intro x hx
  simp only [List.mem_map, List.mem_range] at hx
  obtain ⟨e, _, rfl⟩ := hx
  have := dgt_lt c (m - 1 - e)
  rw [inR_iff]; omega
def vtV (m c : Nat) : Int := wV (vcV m c) (2 ^ m - 1) m
theorem vt_all : ((List.range 5).all fun m => (List.range 256).all fun c => !decide (c < 4 ^ m) || (decide (0 ≤ vtV m c) && (!decide (vtV m c = 0) || decide (vcV m c = List.replicate m 0)))) = true := by kernel_rfl
theorem vt_eq {m c : Nat} (hm : m < 5) (hc : c < 4 ^ m) : 0 ≤ vtV m c ∧ (vtV m c = 0 → vcV m c = List.replicate m 0) := by
  have h4 : 4 ^ m ≤ 256 := Nat.le_trans (Nat.pow_le_pow_right (by omega) (show m ≤ 4 by omega)) (by decide)
  have := List.all_eq_true.1 (List.all_eq_true.1 vt_all m (List.mem_range.2 hm)) c (List.mem_range.2 (by omega))
  rw [decide_eq_true hc, Bool.not_true, Bool.false_or, Bool.and_eq_true, decide_eq_true_eq, Bool.or_eq_true, Bool.not_eq_true', decide_eq_false_iff_not, decide_eq_true_eq] at this
  exact ⟨this.1, fun h => this.2.resolve_left fun h' => h' h⟩

def valO (t : Nat → Int) : Option Nat → Int
  | some c => t c
  | none => 0
def ascS (p : Nat → Bool) (t : Nat → Int) (b : Option Nat) (k : Nat) : Option Nat := if valO t b ≤ t k ∧ p k = true then some k else b
def ascB (p : Nat → Bool) (t : Nat → Int) : Nat → Option Nat
  | 0 => none
  | k + 1 => ascS p t (ascB p t k) k
def desS (p : Nat → Bool) (t : Nat → Int) (b : Option Nat) (c : Nat) : Option Nat := if valO t b < t c ∧ p c = true then some c else b
def desB (p : Nat → Bool) (t : Nat → Int) (N : Nat) : Nat → Option Nat
  | 0 => none
  | k + 1 => desS p t (desB p t N k) (N - 1 - k)
theorem ascB_yes {p : Nat → Bool} {t : Nat → Int} {k : Nat} (h : valO t (ascB p t k) ≤ t k) (h2 : p k = true) : ascB p t (k + 1) = some k := if_pos ⟨h, h2⟩
theorem ascB_no {p : Nat → Bool} {t : Nat → Int} {k : Nat} (h : t k < valO t (ascB p t k) ∨ p k = false) : ascB p t (k + 1) = ascB p t k := if_neg fun h' => by
  rcases h with h | h
  · omega
  · rw [h] at h'; cases h'.2
theorem desB_yes {p : Nat → Bool} {t : Nat → Int} {N k : Nat} (h : valO t (desB p t N k) < t (N - 1 - k)) (h2 : p (N - 1 - k) = true) : desB p t N (k + 1) = some (N - 1 - k) := if_pos ⟨h, h2⟩
theorem desB_no {p : Nat → Bool} {t : Nat → Int} {N k : Nat} (h : t (N - 1 - k) ≤ valO t (desB p t N k) ∨ p (N - 1 - k) = false) : desB p t N (k + 1) = desB p t N k := if_neg fun h' => by
  rcases h with h | h
  · omega
  · rw [h] at h'; cases h'.2
theorem ascB_spec {p : Nat → Bool} {t : Nat → Int} (k : Nat) (ht : ∀ c, c < k → 0 ≤ t c) : (∃ c, ascB p t k = some c ∧ c < k ∧ p c = true ∧ ∀ c', c' < k → p c' = true → t c' ≤ t c ∧ (c < c' → t c' < t c)) ∨ (ascB p t k = none ∧ ∀ c', c' < k → p c' = false) := by
  induction k with
  | zero => exact .inr ⟨rfl, fun c h => by omega⟩
  | succ k ih =>
    have ih := ih fun c hc => ht c (by omega)
    have htk := ht k (by omega)
    cases hp : p k with
    | false =>
      rw [ascB_no (.inr hp)]
      rcases ih with ⟨c, h1, h2, h3, h4⟩ | ⟨h1, h2⟩
      · refine .inl ⟨c, h1, by omega, h3, fun c' hc' hp' => h4 c' ?_ hp'⟩
        by_cases e : c' = k
        · subst e; rw [hp] at hp'; cases hp'
        · omega
      · refine .inr ⟨h1, fun c' hc' => ?_⟩
        by_cases e : c' = k
        · subst e; exact hp
        · exact h2 c' (by omega)
    | true =>
      by_cases hv : valO t (ascB p t k) ≤ t k
      · rw [ascB_yes hv hp]
        refine .inl ⟨k, rfl, by omega, hp, fun c' hc' hp' => ⟨?_, fun h => by omega⟩⟩
        by_cases e : c' = k
        · subst e; omega
        · rcases ih with ⟨c, h1, h2, h3, h4⟩ | ⟨h1, h2⟩
          · rw [h1] at hv
            have := (h4 c' (by omega) hp').1
            simp only [valO] at hv; omega
          · have := h2 c' (by omega); rw [this] at hp'; cases hp'
      · rw [ascB_no (.inl (by omega))]
        rcases ih with ⟨c, h1, h2, h3, h4⟩ | ⟨h1, h2⟩
        · refine .inl ⟨c, h1, by omega, h3, fun c' hc' hp' => ?_⟩
          by_cases e : c' = k
          · subst e
            rw [h1] at hv
            simp only [valO] at hv
            exact ⟨by omega, fun _ => by omega⟩
          · exact h4 c' (by omega) hp'
        · rw [h1] at hv; simp only [valO] at hv; omega
theorem desB_spec {p : Nat → Bool} {t : Nat → Int} {N : Nat} (k : Nat) (hk : k ≤ N) : (∃ c, desB p t N k = some c ∧ N - k ≤ c ∧ c < N ∧ p c = true ∧ 0 < t c ∧ ∀ c', N - k ≤ c' → c' < N → p c' = true → t c' ≤ t c ∧ (c < c' → t c' < t c)) ∨ (desB p t N k = none ∧ ∀ c', N - k ≤ c' → c' < N → p c' = true → t c' ≤ 0) := by
  induction k with
  | zero => exact .inr ⟨rfl, fun c h1 h2 => by omega⟩
  | succ k ih =>
    have ih := ih (by omega)
    cases hp : p (N - 1 - k) with
    | false =>
      rw [desB_no (.inr hp)]
      rcases ih with ⟨c, h1, h2, h2', h3, h4, h5⟩ | ⟨h1, h2⟩
      · refine .inl ⟨c, h1, by omega, h2', h3, h4, fun c' hc1 hc2 hp' => h5 c' ?_ hc2 hp'⟩
        by_cases e : c' = N - 1 - k
        · subst e; rw [hp] at hp'; cases hp'
        · omega
      · refine .inr ⟨h1, fun c' hc1 hc2 hp' => ?_⟩
        by_cases e : c' = N - 1 - k
        · subst e; rw [hp] at hp'; cases hp'
        · exact h2 c' (by omega) hc2 hp'
    | true =>
      by_cases hv : valO t (desB p t N k) < t (N - 1 - k)
      · rw [desB_yes hv hp]
        have hpos : 0 < t (N - 1 - k) := by
          rcases ih with ⟨c, h1, h2, h2', h3, h4, h5⟩ | ⟨h1, h2⟩
          · rw [h1] at hv; simp only [valO] at hv; omega
          · rw [h1] at hv; simp only [valO] at hv; omega
        refine .inl ⟨N - 1 - k, rfl, by omega, by omega, hp, hpos, fun c' hc1 hc2 hp' => ?_⟩
        by_cases e : c' = N - 1 - k
        · subst e; exact ⟨by omega, fun h => by omega⟩
        · rcases ih with ⟨c, h1, h2, h2', h3, h4, h5⟩ | ⟨h1, h2⟩
          · rw [h1] at hv; simp only [valO] at hv
            have := (h5 c' (by omega) hc2 hp').1
            exact ⟨by omega, fun _ => by omega⟩
          · have := h2 c' (by omega) hc2 hp'
            exact ⟨by omega, fun _ => by omega⟩
      · rw [desB_no (.inl (by omega))]
        rcases ih with ⟨c, h1, h2, h2', h3, h4, h5⟩ | ⟨h1, h2⟩
        · refine .inl ⟨c, h1, by omega, h2', h3, h4, fun c' hc1 hc2 hp' => ?_⟩
          by_cases e : c' = N - 1 - k
          · subst e
            rw [h1] at hv; simp only [valO] at hv
            exact ⟨by omega, fun h => by omega⟩
          · exact h5 c' (by omega) hc2 hp'
        · rw [h1] at hv; simp only [valO] at hv
          refine .inr ⟨h1, fun c' hc1 hc2 hp' => ?_⟩
          by_cases e : c' = N - 1 - k
          · subst e; omega
          · exact h2 c' (by omega) hc2 hp'
def vecO (m : Nat) : Option Nat → List Int
  | some c => vcV m c
  | none => List.replicate m 0
theorem vec_same {m : Nat} (hm : m < 5) (p : Nat → Bool) : vecO m (ascB p (vtV m) (4 ^ m)) = vecO m (desB p (vtV m) (4 ^ m) (4 ^ m)) := by
  rcases ascB_spec (p := p) (t := vtV m) (4 ^ m) (fun c hc => (vt_eq hm hc).1) with ⟨c, h1, h2, h3, h4⟩ | ⟨h1, h2⟩ <;>
  rcases desB_spec (p := p) (t := vtV m) (N := 4 ^ m) (4 ^ m) (Nat.le_refl _) with ⟨d, g1, g2, g2', g3, g4, g5⟩ | ⟨g1, g2⟩
  · have a := h4 d g2' g3
    have b := g5 c (by omega) h2 h3
    have e : c = d := by
      rcases Nat.lt_trichotomy c d with h | h | h
      · have := a.2 h; omega
      · exact h
      · have := b.2 h; omega
    rw [h1, g1, e]
  · have a := g2 c (by omega) h2 h3
    have b := vt_eq hm h2
    rw [h1, g1]
    exact b.2 (by omega)
  · have := h2 d g2'; rw [this] at g3; cases g3
  · rw [h1, g1]
def cvP (l l' : List Int) (m c : Nat) : Bool := belV l (vcV m c) && belV l' (vcV m c)
def cvO (l l' : List Int) (m : Nat) : Option Nat := ascB (cvP l l' m) (vtV m) (4 ^ m)
def okCv (n : Int) (l : List Int) (n' : Int) (l' : List Int) : Bool := polV n l && (polV n' l' && (decide (n = n') && decide (n ≤ 4)))
def tCv : Tab
  | [.ag [.i n, .sl .i64 l], .ag [.i n', .sl .i64 l']] => some (True, .tu [.own 0, .b (okCv n l n' l')], [.row .i64 3 (orE (okCv n l n' l') (vecO n.toNat (cvO l l' n.toNat)))])
  | _ => none
theorem okCv_iff {n n' : Int} {l l' : List Int} : okCv n l n' l' = true ↔ polV n l = true ∧ polV n' l' = true ∧ n = n' ∧ n ≤ 4 := by
  unfold okCv; simp only [Bool.and_eq_true, decide_eq_true_eq]
/-- The first k numbers of a vector. -/
def prtV (V : List Int) (k : Nat) : List Int := V.take k ++ List.replicate (V.length - k) 0
theorem prtV_len {V : List Int} {k : Nat} (h : k ≤ V.length) : (prtV V k).length = V.length := by simp [prtV]; omega
theorem prtV_set {V : List Int} {k : Nat} (h : k < V.length) : (prtV V k).set k (V.getD k 0) = prtV V (k + 1) := by
  unfold prtV
  rw [List.set_append, if_neg (by rw [List.length_take]; omega), List.length_take, Nat.min_eq_left (by omega), Nat.sub_self, show V.length - k = (V.length - (k + 1)) + 1 by omega, List.replicate_succ, List.set_cons_zero, take_succ_getD h, List.append_assoc]; rfl
theorem prtV_all {V : List Int} {m : Nat} (h : V.length = m) : prtV V m = V := by subst h; simp [prtV]
theorem prtV_0 {V : List Int} {m : Nat} (h : V.length = m) : prtV V 0 = List.replicate m 0 := by subst h; simp [prtV]
theorem cvb_pre {n : Int} {l : List Int} (h : polV n l = true) (c : Nat) : blPre n l (vcV n.toNat c) = True := by
  have hp := pol_iff.1 h
  have hn := (fnV_iff.1 hp.1).1
  refine eq_true ⟨?_, by rw [vcV_len]; omega, vc_b5 _ _⟩
  unfold grV; rw [hp.1, decide_eq_true hp.2.1]; rfl
theorem implCv_ok : Fits Try.prog 37 tCv := by
  refine ⟨callable_of Try.func37 (by kernel_rfl) rfl, ?_⟩
  intro args p out Ho h hp
  unfold tCv at h
  split at h <;> cases h
  rename_i n l n' l'
  refine ⟨acall_by (env_ok (env := [(74, tIsPol), (133, tAllOf), (146, tWt), (41, tBlw)]) (by simp only [List.forall_mem_cons, List.not_mem_nil, false_implies, implies_true, and_true]; exact ⟨implIsPol_ok, allOf_ok, implWt_ok, implBel_ok⟩)) Try.func37 rfl rfl rfl rfl rfl ?_, rfl, rfl⟩
  intro hlen c hc hX
  simp only [lensOk, AV.lenOk, true_and, and_true] at hlen
  simp only [Try.ntmps37, Try.results37, List.length_cons, List.length_nil, List.replicate, List.cons_append, List.nil_append, Nat.reduceAdd, Nat.reduceSub]
  cases hok : okCv n l n' l' with
  | false =>
    repeat' first | ((with_reducible show aol _ _ _ _ _); first | (refine aol_guard_f (by rfl) ?_ ?_; (focus (simp only [go_sem]; done))) | (refine aol_guard_un (by rfl) ?_ ?_; (focus (simp only [go_sem]; done)))) | ((with_reducible refine hK _ ?_); clear hK K; try simp only [nxA, nxB]) | (with_reducible refine awp_seq fun K hK => ?_) | ((first | ((with_reducible show aol _ _ _ _ _); try first | (refine aol_guard_t (by rfl) ?_ ?_; (focus (simp only [go_sem]; done))) | (refine aol_guard_b (by rfl) (by rfl) (fun h => ?_) (fun h => ?_) <;> (try simp only [hsA, hsB, hsC, hsD, hsE, List.all_cons, List.all_nil, ne_eq, reduceCtorEq] at h))) | ((with_reducible show Awp _ _ (Code.region _ _ _) _ _); first | refine awp_regK (by repeat constructor) (fun K hK => ?_) | (refine awp_drwK (by kernel_rfl) (by repeat constructor) (fun K hK => ?_)))) <;> simp (config := { maxSteps := 2000000 }) (disch := omega) only [go_sem, ↓reduceIte, Nat.reduceEqDiff, Nat.reduceAdd, Nat.reduceLT, Nat.reduceLeDiff, Nat.reduceSub, tIsPol]) | ((with_reducible show Awp _ _ (Code.cond _ _ _) _ _); refine awp_cond rfl (fun h => ?_) (fun h => ?_) <;> (try simp only [hsA, hsB, hsC, hsD, hsE, List.all_cons, List.all_nil, ne_eq, reduceCtorEq] at h)) | ((with_reducible first | refine awp_skip ?_ | refine awp_ret ?_); simp only [nxA, nxB]) | (with_reducible refine awp_block ?_) | ((with_reducible refine awp_exit ?_); simp only [nxA, ne_eq, not_false_eq_true, Nat.reduceEqDiff, reduceCtorEq]; try ((first | refine hK _ ?_ | (clear hK K; first | refine hK _ ?_ | (clear hK K; first | refine hK _ ?_ | (clear hK K; refine hK _ ?_)))); clear hK K)) | (with_reducible first | apply And.intro | exact True.intro) | ((with_reducible first | show List.all _ _ = true | show lendOk _ _ = true); rfl) | omega | ((with_reducible first | show ¬ _ | show _ → _); intro h; first | contradiction | cases h; done | skip)
    all_goals (try (first | refine fin_keep ?_ | refine finm_keep ?_; repeat clear hK))
    all_goals first
      | exact fin_nlb (by simp) (by decide) rfl rfl
      | (exfalso; rw [okCv_iff.2 ⟨by assumption, by assumption, by first | assumption | omega, by first | assumption | omega⟩] at hok; cases hok)
  | true =>
    obtain ⟨h1, h2, rfl, h4⟩ := okCv_iff.1 hok
    have hn := (fnV_iff.1 (pol_iff.1 h1).1).1
    have hu := u64_id (n := 2 * n) (by omega) (by omega)
    have hsh : ishl 1 (2 * n) = ((4 ^ n.toNat : Nat) : Int) := by
      rw [ishl_one (by omega) (by omega), pow_nat, show (2 * n).toNat = 2 * n.toNat by omega, Nat.pow_mul]
    have hN : 4 ^ n.toNat ≤ 256 := Nat.le_trans (Nat.pow_le_pow_right (by omega) (show n.toNat ≤ 4 by omega)) (by decide)
    have hrl : (List.replicate n.toNat (0 : Int)).length = n.toNat := List.length_replicate ..
    have hF := cbF_eq n
    have hle4 : ¬ 4 < n := by omega
    repeat' first | ((with_reducible show aol _ _ _ _ _); first | (refine aol_guard_f (by rfl) ?_ ?_; (focus (simp only [go_sem]; done))) | (refine aol_guard_un (by rfl) ?_ ?_; (focus (simp only [go_sem]; done)))) | ((with_reducible refine hK _ ?_); clear hK K; try simp only [nxA, nxB]) | (with_reducible refine awp_seq fun K hK => ?_) | ((first | ((with_reducible show aol _ _ _ _ _); try first | (refine aol_guard_t (by rfl) ?_ ?_; (focus (simp only [go_sem]; done))) | (refine aol_guard_b (by rfl) (by rfl) (fun h => ?_) (fun h => ?_) <;> (try simp only [hsA, hsB, hsC, hsD, hsE, List.all_cons, List.all_nil, ne_eq, reduceCtorEq] at h))) | ((with_reducible show Awp _ _ (Code.region _ _ _) _ _); first | refine awp_regK (by repeat constructor) (fun K hK => ?_) | (refine awp_drwK (by kernel_rfl) (by repeat constructor) (fun K hK => ?_)))) <;> simp (config := { maxSteps := 2000000 }) (disch := omega) only [go_sem, ↓reduceIte, Nat.reduceEqDiff, Nat.reduceAdd, Nat.reduceLT, Nat.reduceLeDiff, Nat.reduceSub, tIsPol, h1, h2, hle4, hu, hsh, hrl]) | ((with_reducible show Awp _ _ (Code.cond _ _ _) _ _); refine awp_cond rfl (fun h => ?_) (fun h => ?_) <;> (try simp only [hsA, hsB, hsC, hsD, hsE, List.all_cons, List.all_nil, ne_eq, reduceCtorEq] at h)) | ((with_reducible first | refine awp_skip ?_ | refine awp_ret ?_); simp only [nxA, nxB]) | (with_reducible refine awp_block ?_) | ((with_reducible refine awp_exit ?_); simp only [nxA, ne_eq, not_false_eq_true, Nat.reduceEqDiff, reduceCtorEq]; try ((first | refine hK _ ?_ | (clear hK K; first | refine hK _ ?_ | (clear hK K; first | refine hK _ ?_ | (clear hK K; refine hK _ ?_)))); clear hK K)) | (with_reducible first | apply And.intro | exact True.intro) | ((with_reducible first | show List.all _ _ = true | show lendOk _ _ = true); rfl) | omega | ((with_reducible first | show ¬ _ | show _ → _); intro h; first | contradiction | cases h; done | skip)
    all_goals (try (first | refine fin_keep ?_ | refine finm_keep ?_; repeat clear hK))
    refine awp_forR 0 hX (fun st (k : Nat) => st.at [2, 3, 6, 40] [(7, .own 2), (8, .i (valO (vtV n.toNat) (ascB (cvP l l' n.toNat) (vtV n.toNat) k))), (41, .i k)] [.box 26 [.i n, .sl .i64 l], .box 26 [.i n, .sl .i64 l'], .row .i64 3 (vecO n.toNat (ascB (cvP l l' n.toNat) (vtV n.toNat) k))]) (fun k => k ≤ 4 ^ n.toNat) (fun k => 4 ^ n.toNat - k) 0 (Nat.zero_le _) ?_ ?_
    · exact ⟨[0, 1, 2], rfl, rfl, by simp [-List.getD_eq_getElem?_getD, -List.length_take, List.getD_cons_zero, List.getD_cons_succ, leFr, ASt.at, keepFr, updAll, upd_zero, upd_succ, AV.rnb, AV.rnb0, ascB, valO, vecO], by simp [-List.getD_eq_getElem?_getD, List.getD_cons_zero, List.getD_cons_succ, ASt.at, AO.rnb, AV.rnb0, upd_k0, upd_k1, upd_k2, upd_k3, ascB, valO, vecO], rfl, rfl⟩
    rintro k hk
    simp only [ASt.at, keepFr, updAll, upd_zero, upd_succ, List.mem_cons, List.not_mem_nil, Nat.reduceEqDiff, Nat.reduceAdd, or_false, or_true, false_or, true_or, ↓reduceIte, eq_self]
    rcases Nat.lt_or_ge k (4 ^ n.toNat) with hkl | hkl
    · repeat' first | ((with_reducible show aol _ _ _ _ _); first | (refine aol_guard_f (by rfl) ?_ ?_; (focus (simp only [go_sem]; done))) | (refine aol_guard_un (by rfl) ?_ ?_; (focus (simp only [go_sem]; done)))) | ((with_reducible refine hK _ ?_); clear hK K; try simp only [nxA, nxB]) | (with_reducible refine awp_seq fun K hK => ?_) | ((first | ((with_reducible show aol _ _ _ _ _); try first | (refine aol_guard_t (by rfl) ?_ ?_; (focus (simp only [go_sem]; done))) | (refine aol_guard_b (by rfl) (by rfl) (fun h => ?_) (fun h => ?_) <;> (try simp only [hsA, hsB, hsC, hsD, hsE, List.all_cons, List.all_nil, ne_eq, reduceCtorEq] at h))) | ((with_reducible show Awp _ _ (Code.region _ _ _) _ _); first | refine awp_regK (by repeat constructor) (fun K hK => ?_) | (refine awp_drwK (by kernel_rfl) (by repeat constructor) (fun K hK => ?_)))) <;> simp (config := { maxSteps := 2000000 }) (disch := omega) only [go_sem, ↓reduceIte, Nat.reduceEqDiff, Nat.reduceAdd, Nat.reduceLT, Nat.reduceLeDiff, Nat.reduceSub, hrl]) | ((with_reducible show Awp _ _ (Code.cond _ _ _) _ _); refine awp_cond rfl (fun h => ?_) (fun h => ?_) <;> (try simp only [hsA, hsB, hsC, hsD, hsE, List.all_cons, List.all_nil, ne_eq, reduceCtorEq] at h)) | ((with_reducible first | refine awp_skip ?_ | refine awp_ret ?_); simp only [nxA, nxB]) | (with_reducible refine awp_block ?_) | ((with_reducible refine awp_exit ?_); simp only [nxA, ne_eq, not_false_eq_true, Nat.reduceEqDiff, reduceCtorEq]; try ((first | refine hK _ ?_ | (clear hK K; first | refine hK _ ?_ | (clear hK K; first | refine hK _ ?_ | (clear hK K; refine hK _ ?_)))); clear hK K)) | (with_reducible first | apply And.intro | exact True.intro) | ((with_reducible first | show List.all _ _ = true | show lendOk _ _ = true); rfl) | omega | ((with_reducible first | show ¬ _ | show _ → _); intro h; first | contradiction | cases h; done | skip)
      all_goals (try (first | refine fin_keep ?_ | refine finm_keep ?_; repeat clear hK))
      refine awp_for (fun st (e : Nat) => st.at [2, 3, 6, 7, 8, 9, 10, 40, 41, 47] [(48, .i e)] [.box 26 [.i n, .sl .i64 l], .box 26 [.i n, .sl .i64 l'], .row .i64 3 (vecO n.toNat (ascB (cvP l l' n.toNat) (vtV n.toNat) k)), .row .i64 3 (prtV (vcV n.toNat k) e)]) (fun e => e ≤ n.toNat) (fun e => n.toNat - e) 0 (Nat.zero_le _) ?_ ?_
      · simp [-List.getD_eq_getElem?_getD, -List.length_take, Le, leFr, ASt.at, keepFr, updAll, upd_zero, upd_succ, prtV_0 (vcV_len n.toNat k)]
      rintro e he
      simp only [ASt.at, keepFr, updAll, upd_zero, upd_succ, List.mem_cons, List.not_mem_nil, Nat.reduceEqDiff, Nat.reduceAdd, or_false, or_true, false_or, true_or, ↓reduceIte, eq_self]
      have hvl := vcV_len n.toNat k
      have hpl := prtV_len (V := vcV n.toNat k) (k := e) (by omega)
      rw [hvl] at hpl
      rcases Nat.lt_or_ge e n.toNat with hel | hel
      · have hj : 2 * (n - 1 - (e : Int)) = ((2 * (n.toNat - 1 - e) : Nat) : Int) := by omega
        have hu2 := u64_id (n := ((2 * (n.toNat - 1 - e) : Nat) : Int)) (by omega) (by omega)
        have hd := dgt_eq (c := k) (j := n.toNat - 1 - e) (by omega) (by omega)
        rw [← vcV_get hel] at hd
        have hset := prtV_set (V := vcV n.toNat k) (k := e) (by omega)
        repeat' first | ((with_reducible show aol _ _ _ _ _); first | (refine aol_guard_f (by rfl) ?_ ?_; (focus (simp only [go_sem]; done))) | (refine aol_guard_un (by rfl) ?_ ?_; (focus (simp only [go_sem]; done)))) | ((with_reducible refine hK _ ?_); clear hK K; try simp only [nxA, nxB]) | (with_reducible refine awp_seq fun K hK => ?_) | ((first | ((with_reducible show aol _ _ _ _ _); try first | (refine aol_guard_t (by rfl) ?_ ?_; (focus (simp only [go_sem]; done))) | (refine aol_guard_b (by rfl) (by rfl) (fun h => ?_) (fun h => ?_) <;> (try simp only [hsA, hsB, hsC, hsD, hsE, List.all_cons, List.all_nil, ne_eq, reduceCtorEq] at h))) | ((with_reducible show Awp _ _ (Code.region _ _ _) _ _); first | refine awp_regK (by repeat constructor) (fun K hK => ?_) | (refine awp_drwK (by kernel_rfl) (by repeat constructor) (fun K hK => ?_)))) <;> simp (config := { maxSteps := 2000000 }) (disch := omega) only [go_sem, ↓reduceIte, Nat.reduceEqDiff, Nat.reduceAdd, Nat.reduceLT, Nat.reduceLeDiff, Nat.reduceSub, hpl, hj, hu2, hd, hset]) | ((with_reducible show Awp _ _ (Code.cond _ _ _) _ _); refine awp_cond rfl (fun h => ?_) (fun h => ?_) <;> (try simp only [hsA, hsB, hsC, hsD, hsE, List.all_cons, List.all_nil, ne_eq, reduceCtorEq] at h)) | ((with_reducible first | refine awp_skip ?_ | refine awp_ret ?_); simp only [nxA, nxB]) | (with_reducible refine awp_block ?_) | ((with_reducible refine awp_exit ?_); simp only [nxA, ne_eq, not_false_eq_true, Nat.reduceEqDiff, reduceCtorEq]; try ((first | refine hK _ ?_ | (clear hK K; first | refine hK _ ?_ | (clear hK K; first | refine hK _ ?_ | (clear hK K; refine hK _ ?_)))); clear hK K)) | (with_reducible first | apply And.intro | exact True.intro) | ((with_reducible first | show List.all _ _ = true | show lendOk _ _ = true); rfl) | omega | ((with_reducible first | show ¬ _ | show _ → _); intro h; first | contradiction | cases h; done | skip)
        all_goals (try (first | refine fin_keep ?_ | refine finm_keep ?_; repeat clear hK))
        refine ⟨e + 1, by omega, by omega, ?_⟩
        simp [-List.getD_eq_getElem?_getD, -List.length_take, Le, leFr, ASt.at, keepFr, updAll, upd_zero, upd_succ]
      · obtain rfl : e = n.toNat := by omega
        rw [prtV_all hvl] at hpl ⊢
        have hb5 := vc_b5 n.toNat k
        unfold b5 at hb5
        have hc1 := cvb_pre h1 k
        have hc2 := cvb_pre h2 k
        have hcb : cbF n = 2 ^ n.toNat - 1 := rfl
        have hcl := cbF_lt n
        have hp6 : 2 ^ n.toNat ≤ 16 := Nat.le_trans (Nat.pow_le_pow_right (by omega) (show n.toNat ≤ 4 by omega)) (by decide)
        have hvt : wV (vcV n.toNat k) (cbF n) n.toNat = vtV n.toNat k := rfl
        repeat' first | ((with_reducible show aol _ _ _ _ _); first | (refine aol_guard_f (by rfl) ?_ ?_; (focus (simp only [go_sem]; done))) | (refine aol_guard_un (by rfl) ?_ ?_; (focus (simp only [go_sem]; done)))) | ((with_reducible refine hK _ ?_); clear hK K; try simp only [nxA, nxB]) | (with_reducible refine awp_seq fun K hK => ?_) | ((first | ((with_reducible show aol _ _ _ _ _); try first | (refine aol_guard_t (by rfl) ?_ ?_; (focus (simp only [go_sem]; done))) | (refine aol_guard_b (by rfl) (by rfl) (fun h => ?_) (fun h => ?_) <;> (try simp only [hsA, hsB, hsC, hsD, hsE, List.all_cons, List.all_nil, ne_eq, reduceCtorEq] at h))) | ((with_reducible show Awp _ _ (Code.region _ _ _) _ _); first | refine awp_regK (by repeat constructor) (fun K hK => ?_) | (refine awp_drwK (by kernel_rfl) (by repeat constructor) (fun K hK => ?_)))) <;> simp (config := { maxSteps := 2000000 }) (disch := omega) only [go_sem, ↓reduceIte, Nat.reduceEqDiff, Nat.reduceAdd, Nat.reduceLT, Nat.reduceLeDiff, Nat.reduceSub, hpl, tAllOf, hF, tWt, hb5, hvl, hvt, tBlw, hc1, hc2]) | ((with_reducible show Awp _ _ (Code.cond _ _ _) _ _); refine awp_cond rfl (fun h => ?_) (fun h => ?_) <;> (try simp only [hsA, hsB, hsC, hsD, hsE, List.all_cons, List.all_nil, ne_eq, reduceCtorEq] at h)) | ((with_reducible first | refine awp_skip ?_ | refine awp_ret ?_); simp only [nxA, nxB]) | (with_reducible refine awp_block ?_) | ((with_reducible refine awp_exit ?_); simp only [nxA, ne_eq, not_false_eq_true, Nat.reduceEqDiff, reduceCtorEq]; try ((first | refine hK _ ?_ | (clear hK K; first | refine hK _ ?_ | (clear hK K; first | refine hK _ ?_ | (clear hK K; refine hK _ ?_)))); clear hK K)) | (with_reducible first | apply And.intro | exact True.intro) | ((with_reducible first | show List.all _ _ = true | show lendOk _ _ = true); rfl) | omega | ((with_reducible first | show ¬ _ | show _ → _); intro h; first | contradiction | cases h; done | skip)
        all_goals (try (first | refine fin_keep ?_ | refine finm_keep ?_; repeat clear hK))
        · have e1 := ascB_yes (p := cvP l l' n.toNat) (t := vtV n.toNat) (k := k) (by assumption) (by rw [cvP, show belV l (vcV n.toNat k) = true by assumption, show belV l' (vcV n.toNat k) = true by assumption]; rfl)
          refine ⟨k + 1, by omega, by omega, ?_⟩
          exact ⟨[0, 1, 3], rfl, rfl, by simp [-List.getD_eq_getElem?_getD, -List.length_take, List.getD_cons_zero, List.getD_cons_succ, leFr, ASt.at, keepFr, updAll, upd_zero, upd_succ, AV.rnb, AV.rnb0, e1, valO, vecO], by simp [-List.getD_eq_getElem?_getD, List.getD_cons_zero, List.getD_cons_succ, ASt.at, AO.rnb, AV.rnb0, upd_k0, upd_k1, upd_k2, upd_k3, e1, valO, vecO], rfl, rfl⟩
        · have e1 := ascB_no (p := cvP l l' n.toNat) (t := vtV n.toNat) (k := k) (.inr (by rw [cvP, show belV l' (vcV n.toNat k) = false by assumption, Bool.and_false]))
          refine ⟨k + 1, by omega, by omega, ?_⟩
          exact ⟨[0, 1, 2], rfl, rfl, by simp [-List.getD_eq_getElem?_getD, -List.length_take, List.getD_cons_zero, List.getD_cons_succ, leFr, ASt.at, keepFr, updAll, upd_zero, upd_succ, AV.rnb, AV.rnb0, e1], by simp [-List.getD_eq_getElem?_getD, List.getD_cons_zero, List.getD_cons_succ, ASt.at, AO.rnb, AV.rnb0, upd_k0, upd_k1, upd_k2, upd_k3, e1], rfl, rfl⟩
        · have e1 := ascB_no (p := cvP l l' n.toNat) (t := vtV n.toNat) (k := k) (.inr (by rw [cvP, show belV l (vcV n.toNat k) = false by assumption, Bool.false_and]))
          refine ⟨k + 1, by omega, by omega, ?_⟩
          exact ⟨[0, 1, 2], rfl, rfl, by simp [-List.getD_eq_getElem?_getD, -List.length_take, List.getD_cons_zero, List.getD_cons_succ, leFr, ASt.at, keepFr, updAll, upd_zero, upd_succ, AV.rnb, AV.rnb0, e1], by simp [-List.getD_eq_getElem?_getD, List.getD_cons_zero, List.getD_cons_succ, ASt.at, AO.rnb, AV.rnb0, upd_k0, upd_k1, upd_k2, upd_k3, e1], rfl, rfl⟩
        · have e1 := ascB_no (p := cvP l l' n.toNat) (t := vtV n.toNat) (k := k) (.inl (by assumption))
          refine ⟨k + 1, by omega, by omega, ?_⟩
          exact ⟨[0, 1, 2], rfl, rfl, by simp [-List.getD_eq_getElem?_getD, -List.length_take, List.getD_cons_zero, List.getD_cons_succ, leFr, ASt.at, keepFr, updAll, upd_zero, upd_succ, AV.rnb, AV.rnb0, e1], by simp [-List.getD_eq_getElem?_getD, List.getD_cons_zero, List.getD_cons_succ, ASt.at, AO.rnb, AV.rnb0, upd_k0, upd_k1, upd_k2, upd_k3, e1], rfl, rfl⟩
    · obtain rfl : k = 4 ^ n.toNat := by omega
      repeat' first | ((with_reducible show aol _ _ _ _ _); first | (refine aol_guard_f (by rfl) ?_ ?_; (focus (simp only [go_sem]; done))) | (refine aol_guard_un (by rfl) ?_ ?_; (focus (simp only [go_sem]; done)))) | ((with_reducible refine hK _ ?_); clear hK K; try simp only [nxA, nxB]) | (with_reducible refine awp_seq fun K hK => ?_) | ((first | ((with_reducible show aol _ _ _ _ _); try first | (refine aol_guard_t (by rfl) ?_ ?_; (focus (simp only [go_sem]; done))) | (refine aol_guard_b (by rfl) (by rfl) (fun h => ?_) (fun h => ?_) <;> (try simp only [hsA, hsB, hsC, hsD, hsE, List.all_cons, List.all_nil, ne_eq, reduceCtorEq] at h))) | ((with_reducible show Awp _ _ (Code.region _ _ _) _ _); first | refine awp_regK (by repeat constructor) (fun K hK => ?_) | (refine awp_drwK (by kernel_rfl) (by repeat constructor) (fun K hK => ?_)))) <;> simp (config := { maxSteps := 2000000 }) (disch := omega) only [go_sem, ↓reduceIte, Nat.reduceEqDiff, Nat.reduceAdd, Nat.reduceLT, Nat.reduceLeDiff, Nat.reduceSub]) | ((with_reducible show Awp _ _ (Code.cond _ _ _) _ _); refine awp_cond rfl (fun h => ?_) (fun h => ?_) <;> (try simp only [hsA, hsB, hsC, hsD, hsE, List.all_cons, List.all_nil, ne_eq, reduceCtorEq] at h)) | ((with_reducible first | refine awp_skip ?_ | refine awp_ret ?_); simp only [nxA, nxB]) | (with_reducible refine awp_block ?_) | ((with_reducible refine awp_exit ?_); simp only [nxA, ne_eq, not_false_eq_true, Nat.reduceEqDiff, reduceCtorEq]; try ((first | refine hK _ ?_ | (clear hK K; first | refine hK _ ?_ | (clear hK K; first | refine hK _ ?_ | (clear hK K; refine hK _ ?_)))); clear hK K)) | (with_reducible first | apply And.intro | exact True.intro) | ((with_reducible first | show List.all _ _ = true | show lendOk _ _ = true); rfl) | omega | ((with_reducible first | show ¬ _ | show _ → _); intro h; first | contradiction | cases h; done | skip)
      all_goals (try (first | refine fin_keep ?_ | refine finm_keep ?_; repeat clear hK))
      exact fin_ownb rfl rfl rfl
/-- The numbers of a vector from the k-th on. -/
def sfxV (V : List Int) (k : Nat) : List Int := List.replicate k 0 ++ V.drop k
theorem sfxV_len {V : List Int} {k m : Nat} (h : V.length = m) (hk : k ≤ m) : (sfxV V k).length = m := by subst h; simp [sfxV]; omega
theorem sfxV_set {V : List Int} {k : Nat} (h : k < V.length) : (sfxV V (k + 1)).set k (V.getD k 0) = sfxV V k := by
  unfold sfxV
  rw [List.replicate_succ', List.append_assoc, List.set_append, if_neg (by rw [List.length_replicate]; omega), List.length_replicate, Nat.sub_self, List.drop_eq_getElem_cons h, List.getD_eq_getElem?_getD, List.getElem?_eq_getElem h]; rfl
theorem sfxV_0 (V : List Int) : sfxV V 0 = V := by simp [sfxV]
theorem sfxV_all {V : List Int} {m : Nat} (h : V.length = m) : sfxV V m = List.replicate m 0 := by subst h; simp [sfxV]
def yqV (k j : Nat) : Nat := k / 4 ^ j
theorem yqV_0 (k : Nat) : yqV k 0 = k := by simp [yqV]
theorem yqV_le (k j : Nat) : yqV k j ≤ k := Nat.div_le_self ..
theorem yqV_mod (k j : Nat) : ((yqV k j : Nat) : Int).tmod 4 = ((dgt k j : Nat) : Int) := by
  rw [Int.tmod_eq_emod_of_nonneg (by omega)]; unfold yqV dgt; omega
theorem yqV_div (k j : Nat) : ((yqV k j : Nat) : Int).tdiv 4 = ((yqV k (j + 1) : Nat) : Int) := by
  rw [Int.tdiv_eq_ediv_of_nonneg (by omega)]
  unfold yqV
  rw [Nat.pow_succ, ← Nat.div_div_eq_div_mul]; omega
theorem desB_0 (p : Nat → Bool) (t : Nat → Int) (N : Nat) : desB p t N 0 = none := rfl
theorem specCv_ok : Fits Try.prog 38 tCv := by
  refine ⟨callable_of Try.func38 (by kernel_rfl) rfl, ?_⟩
  intro args p out Ho h hp
  unfold tCv at h
  split at h <;> cases h
  rename_i n l n' l'
  refine ⟨acall_by (env_ok (env := [(93, tIsPol), (126, tFull), (147, tWt), (148, tBlw)]) (by simp only [List.forall_mem_cons, List.not_mem_nil, false_implies, implies_true, and_true]; exact ⟨specIsPol_ok, full_ok, specWt_ok, specBel_ok⟩)) Try.func38 rfl rfl rfl rfl rfl ?_, rfl, rfl⟩
  intro hlen c hc hX
  simp only [lensOk, AV.lenOk, true_and, and_true] at hlen
  simp only [Try.ntmps38, Try.results38, List.length_cons, List.length_nil, List.replicate, List.cons_append, List.nil_append, Nat.reduceAdd, Nat.reduceSub]
  cases hok : okCv n l n' l' with
  | false =>
    repeat' first | ((with_reducible show aol _ _ _ _ _); first | (refine aol_guard_f (by rfl) ?_ ?_; (focus (simp only [go_sem]; done))) | (refine aol_guard_un (by rfl) ?_ ?_; (focus (simp only [go_sem]; done)))) | ((with_reducible refine hK _ ?_); clear hK K; try simp only [nxA, nxB]) | (with_reducible refine awp_seq fun K hK => ?_) | ((first | ((with_reducible show aol _ _ _ _ _); try first | (refine aol_guard_t (by rfl) ?_ ?_; (focus (simp only [go_sem]; done))) | (refine aol_guard_b (by rfl) (by rfl) (fun h => ?_) (fun h => ?_) <;> (try simp only [hsA, hsB, hsC, hsD, hsE, List.all_cons, List.all_nil, ne_eq, reduceCtorEq] at h))) | ((with_reducible show Awp _ _ (Code.region _ _ _) _ _); first | refine awp_regK (by repeat constructor) (fun K hK => ?_) | (refine awp_drwK (by kernel_rfl) (by repeat constructor) (fun K hK => ?_)))) <;> simp (config := { maxSteps := 2000000 }) (disch := omega) only [go_sem, ↓reduceIte, Nat.reduceEqDiff, Nat.reduceAdd, Nat.reduceLT, Nat.reduceLeDiff, Nat.reduceSub, tIsPol]) | ((with_reducible show Awp _ _ (Code.cond _ _ _) _ _); refine awp_cond rfl (fun h => ?_) (fun h => ?_) <;> (try simp only [hsA, hsB, hsC, hsD, hsE, List.all_cons, List.all_nil, ne_eq, reduceCtorEq] at h)) | ((with_reducible first | refine awp_skip ?_ | refine awp_ret ?_); simp only [nxA, nxB]) | (with_reducible refine awp_block ?_) | ((with_reducible refine awp_exit ?_); simp only [nxA, ne_eq, not_false_eq_true, Nat.reduceEqDiff, reduceCtorEq]; try ((first | refine hK _ ?_ | (clear hK K; first | refine hK _ ?_ | (clear hK K; first | refine hK _ ?_ | (clear hK K; refine hK _ ?_)))); clear hK K)) | (with_reducible first | apply And.intro | exact True.intro) | ((with_reducible first | show List.all _ _ = true | show lendOk _ _ = true); rfl) | omega | ((with_reducible first | show ¬ _ | show _ → _); intro h; first | contradiction | cases h; done | skip)
    all_goals (try (first | refine fin_keep ?_ | refine finm_keep ?_; repeat clear hK))
    all_goals first
      | exact fin_ownb rfl rfl rfl
      | (exfalso; rw [okCv_iff.2 ⟨by assumption, by assumption, by first | assumption | omega, by first | assumption | omega⟩] at hok; cases hok)
  | true =>
    obtain ⟨h1, h2, rfl, h4⟩ := okCv_iff.1 hok
    have hn := (fnV_iff.1 (pol_iff.1 h1).1).1
    have hN : 4 ^ n.toNat ≤ 256 := Nat.le_trans (Nat.pow_le_pow_right (by omega) (show n.toNat ≤ 4 by omega)) (by decide)
    have hrl : (List.replicate n.toNat (0 : Int)).length = n.toNat := List.length_replicate ..
    have hF := cbF_eq n
    have hle4 : ¬ 4 < n := by omega
    rw [cvO, vec_same (by omega)]
    repeat' first | ((with_reducible show aol _ _ _ _ _); first | (refine aol_guard_f (by rfl) ?_ ?_; (focus (simp only [go_sem]; done))) | (refine aol_guard_un (by rfl) ?_ ?_; (focus (simp only [go_sem]; done)))) | ((with_reducible refine hK _ ?_); clear hK K; try simp only [nxA, nxB]) | (with_reducible refine awp_seq fun K hK => ?_) | ((first | ((with_reducible show aol _ _ _ _ _); try first | (refine aol_guard_t (by rfl) ?_ ?_; (focus (simp only [go_sem]; done))) | (refine aol_guard_b (by rfl) (by rfl) (fun h => ?_) (fun h => ?_) <;> (try simp only [hsA, hsB, hsC, hsD, hsE, List.all_cons, List.all_nil, ne_eq, reduceCtorEq] at h))) | ((with_reducible show Awp _ _ (Code.region _ _ _) _ _); first | refine awp_regK (by repeat constructor) (fun K hK => ?_) | (refine awp_drwK (by kernel_rfl) (by repeat constructor) (fun K hK => ?_)))) <;> simp (config := { maxSteps := 2000000 }) (disch := omega) only [go_sem, ↓reduceIte, Nat.reduceEqDiff, Nat.reduceAdd, Nat.reduceLT, Nat.reduceLeDiff, Nat.reduceSub, tIsPol, h1, h2, hle4, hrl]) | ((with_reducible show Awp _ _ (Code.cond _ _ _) _ _); refine awp_cond rfl (fun h => ?_) (fun h => ?_) <;> (try simp only [hsA, hsB, hsC, hsD, hsE, List.all_cons, List.all_nil, ne_eq, reduceCtorEq] at h)) | ((with_reducible first | refine awp_skip ?_ | refine awp_ret ?_); simp only [nxA, nxB]) | (with_reducible refine awp_block ?_) | ((with_reducible refine awp_exit ?_); simp only [nxA, ne_eq, not_false_eq_true, Nat.reduceEqDiff, reduceCtorEq]; try ((first | refine hK _ ?_ | (clear hK K; first | refine hK _ ?_ | (clear hK K; first | refine hK _ ?_ | (clear hK K; refine hK _ ?_)))); clear hK K)) | (with_reducible first | apply And.intro | exact True.intro) | ((with_reducible first | show List.all _ _ = true | show lendOk _ _ = true); rfl) | omega | ((with_reducible first | show ¬ _ | show _ → _); intro h; first | contradiction | cases h; done | skip)
    all_goals (try (first | refine fin_keep ?_ | refine finm_keep ?_; repeat clear hK))
    refine awp_for (fun st (i : Nat) => st.at [2, 3, 6, 7] [(8, .i (4 ^ i : Nat)), (9, .i i)] st.hp) (fun i => i ≤ n.toNat) (fun i => n.toNat - i) 0 (Nat.zero_le _) ?_ ?_
    · simp [-List.getD_eq_getElem?_getD, -List.length_take, Le, leFr, ASt.at, keepFr, updAll, upd_zero, upd_succ]
    rintro i hi
    simp only [ASt.at, keepFr, updAll, upd_zero, upd_succ, List.mem_cons, List.not_mem_nil, Nat.reduceEqDiff, Nat.reduceAdd, or_false, or_true, false_or, true_or, ↓reduceIte, eq_self]
    have hPi : 4 ^ i ≤ 256 := Nat.le_trans (Nat.pow_le_pow_right (by omega) (show i ≤ 4 by omega)) (by decide)
    have hP0 : 1 ≤ 4 ^ i := Nat.pow_pos (by omega)
    have hPs : ((4 ^ i : Nat) : Int) * 4 = ((4 ^ (i + 1) : Nat) : Int) := by rw [Nat.pow_succ]; omega
    have hPs2 : (4 ^ (i + 1) : Nat) ≤ 1024 := by rw [Nat.pow_succ]; omega
    have hPs3 : 0 ≤ ((4 ^ (i + 1) : Nat) : Int) := Int.natCast_nonneg _
    rcases Nat.lt_or_ge i n.toNat with hil | hil
    · repeat' first | ((with_reducible show aol _ _ _ _ _); first | (refine aol_guard_f (by rfl) ?_ ?_; (focus (simp only [go_sem]; done))) | (refine aol_guard_un (by rfl) ?_ ?_; (focus (simp only [go_sem]; done)))) | ((with_reducible refine hK _ ?_); clear hK K; try simp only [nxA, nxB]) | (with_reducible refine awp_seq fun K hK => ?_) | ((first | ((with_reducible show aol _ _ _ _ _); try first | (refine aol_guard_t (by rfl) ?_ ?_; (focus (simp only [go_sem]; done))) | (refine aol_guard_b (by rfl) (by rfl) (fun h => ?_) (fun h => ?_) <;> (try simp only [hsA, hsB, hsC, hsD, hsE, List.all_cons, List.all_nil, ne_eq, reduceCtorEq] at h))) | ((with_reducible show Awp _ _ (Code.region _ _ _) _ _); first | refine awp_regK (by repeat constructor) (fun K hK => ?_) | (refine awp_drwK (by kernel_rfl) (by repeat constructor) (fun K hK => ?_)))) <;> simp (config := { maxSteps := 2000000 }) (disch := omega) only [go_sem, ↓reduceIte, Nat.reduceEqDiff, Nat.reduceAdd, Nat.reduceLT, Nat.reduceLeDiff, Nat.reduceSub, hPs]) | ((with_reducible show Awp _ _ (Code.cond _ _ _) _ _); refine awp_cond rfl (fun h => ?_) (fun h => ?_) <;> (try simp only [hsA, hsB, hsC, hsD, hsE, List.all_cons, List.all_nil, ne_eq, reduceCtorEq] at h)) | ((with_reducible first | refine awp_skip ?_ | refine awp_ret ?_); simp only [nxA, nxB]) | (with_reducible refine awp_block ?_) | ((with_reducible refine awp_exit ?_); simp only [nxA, ne_eq, not_false_eq_true, Nat.reduceEqDiff, reduceCtorEq]; try ((first | refine hK _ ?_ | (clear hK K; first | refine hK _ ?_ | (clear hK K; first | refine hK _ ?_ | (clear hK K; refine hK _ ?_)))); clear hK K)) | (with_reducible first | apply And.intro | exact True.intro) | ((with_reducible first | show List.all _ _ = true | show lendOk _ _ = true); rfl) | omega | ((with_reducible first | show ¬ _ | show _ → _); intro h; first | contradiction | cases h; done | skip)
      all_goals (try (first | refine fin_keep ?_ | refine finm_keep ?_; repeat clear hK))
      refine ⟨i + 1, by omega, by omega, ?_⟩
      simp [-List.getD_eq_getElem?_getD, -List.length_take, Le, leFr, ASt.at, keepFr, updAll, upd_zero, upd_succ]
    obtain rfl : i = n.toNat := by omega
    repeat' first | ((with_reducible show aol _ _ _ _ _); first | (refine aol_guard_f (by rfl) ?_ ?_; (focus (simp only [go_sem]; done))) | (refine aol_guard_un (by rfl) ?_ ?_; (focus (simp only [go_sem]; done)))) | ((with_reducible refine hK _ ?_); clear hK K; try simp only [nxA, nxB]) | (with_reducible refine awp_seq fun K hK => ?_) | ((first | ((with_reducible show aol _ _ _ _ _); try first | (refine aol_guard_t (by rfl) ?_ ?_; (focus (simp only [go_sem]; done))) | (refine aol_guard_b (by rfl) (by rfl) (fun h => ?_) (fun h => ?_) <;> (try simp only [hsA, hsB, hsC, hsD, hsE, List.all_cons, List.all_nil, ne_eq, reduceCtorEq] at h))) | ((with_reducible show Awp _ _ (Code.region _ _ _) _ _); first | refine awp_regK (by repeat constructor) (fun K hK => ?_) | (refine awp_drwK (by kernel_rfl) (by repeat constructor) (fun K hK => ?_)))) <;> simp (config := { maxSteps := 2000000 }) (disch := omega) only [go_sem, ↓reduceIte, Nat.reduceEqDiff, Nat.reduceAdd, Nat.reduceLT, Nat.reduceLeDiff, Nat.reduceSub]) | ((with_reducible show Awp _ _ (Code.cond _ _ _) _ _); refine awp_cond rfl (fun h => ?_) (fun h => ?_) <;> (try simp only [hsA, hsB, hsC, hsD, hsE, List.all_cons, List.all_nil, ne_eq, reduceCtorEq] at h)) | ((with_reducible first | refine awp_skip ?_ | refine awp_ret ?_); simp only [nxA, nxB]) | (with_reducible refine awp_block ?_) | ((with_reducible refine awp_exit ?_); simp only [nxA, ne_eq, not_false_eq_true, Nat.reduceEqDiff, reduceCtorEq]; try ((first | refine hK _ ?_ | (clear hK K; first | refine hK _ ?_ | (clear hK K; first | refine hK _ ?_ | (clear hK K; refine hK _ ?_)))); clear hK K)) | (with_reducible first | apply And.intro | exact True.intro) | ((with_reducible first | show List.all _ _ = true | show lendOk _ _ = true); rfl) | omega | ((with_reducible first | show ¬ _ | show _ → _); intro h; first | contradiction | cases h; done | skip)
    all_goals (try (first | refine fin_keep ?_ | refine finm_keep ?_; repeat clear hK))
    refine awp_forR 0 hX (fun st (k : Nat) => st.at [2, 3, 8] [(6, .own 2), (7, .i (valO (vtV n.toNat) (desB (cvP l l' n.toNat) (vtV n.toNat) (4 ^ n.toNat) k))), (10, .i k)] [.box 26 [.i n, .sl .i64 l], .box 26 [.i n, .sl .i64 l'], .row .i64 3 (vecO n.toNat (desB (cvP l l' n.toNat) (vtV n.toNat) (4 ^ n.toNat) k))]) (fun k => k ≤ 4 ^ n.toNat) (fun k => 4 ^ n.toNat - k) 0 (Nat.zero_le _) ?_ ?_
    · exact ⟨[0, 1, 2], rfl, rfl, by simp [-List.getD_eq_getElem?_getD, -List.length_take, List.getD_cons_zero, List.getD_cons_succ, leFr, ASt.at, keepFr, updAll, upd_zero, upd_succ, AV.rnb, AV.rnb0, desB_0, valO, vecO], by simp [-List.getD_eq_getElem?_getD, List.getD_cons_zero, List.getD_cons_succ, ASt.at, AO.rnb, AV.rnb0, upd_k0, upd_k1, upd_k2, upd_k3, desB_0, valO, vecO], rfl, rfl⟩
    rintro k hk
    simp only [ASt.at, keepFr, updAll, upd_zero, upd_succ, List.mem_cons, List.not_mem_nil, Nat.reduceEqDiff, Nat.reduceAdd, or_false, or_true, false_or, true_or, ↓reduceIte, eq_self]
    rcases Nat.lt_or_ge k (4 ^ n.toNat) with hkl | hkl
    · have hvl := vcV_len n.toNat (4 ^ n.toNat - 1 - k)
      repeat' first | ((with_reducible show aol _ _ _ _ _); first | (refine aol_guard_f (by rfl) ?_ ?_; (focus (simp only [go_sem]; done))) | (refine aol_guard_un (by rfl) ?_ ?_; (focus (simp only [go_sem]; done)))) | ((with_reducible refine hK _ ?_); clear hK K; try simp only [nxA, nxB]) | (with_reducible refine awp_seq fun K hK => ?_) | ((first | ((with_reducible show aol _ _ _ _ _); try first | (refine aol_guard_t (by rfl) ?_ ?_; (focus (simp only [go_sem]; done))) | (refine aol_guard_b (by rfl) (by rfl) (fun h => ?_) (fun h => ?_) <;> (try simp only [hsA, hsB, hsC, hsD, hsE, List.all_cons, List.all_nil, ne_eq, reduceCtorEq] at h))) | ((with_reducible show Awp _ _ (Code.region _ _ _) _ _); first | refine awp_regK (by repeat constructor) (fun K hK => ?_) | (refine awp_drwK (by kernel_rfl) (by repeat constructor) (fun K hK => ?_)))) <;> simp (config := { maxSteps := 2000000 }) (disch := omega) only [go_sem, ↓reduceIte, Nat.reduceEqDiff, Nat.reduceAdd, Nat.reduceLT, Nat.reduceLeDiff, Nat.reduceSub, hrl]) | ((with_reducible show Awp _ _ (Code.cond _ _ _) _ _); refine awp_cond rfl (fun h => ?_) (fun h => ?_) <;> (try simp only [hsA, hsB, hsC, hsD, hsE, List.all_cons, List.all_nil, ne_eq, reduceCtorEq] at h)) | ((with_reducible first | refine awp_skip ?_ | refine awp_ret ?_); simp only [nxA, nxB]) | (with_reducible refine awp_block ?_) | ((with_reducible refine awp_exit ?_); simp only [nxA, ne_eq, not_false_eq_true, Nat.reduceEqDiff, reduceCtorEq]; try ((first | refine hK _ ?_ | (clear hK K; first | refine hK _ ?_ | (clear hK K; first | refine hK _ ?_ | (clear hK K; refine hK _ ?_)))); clear hK K)) | (with_reducible first | apply And.intro | exact True.intro) | ((with_reducible first | show List.all _ _ = true | show lendOk _ _ = true); rfl) | omega | ((with_reducible first | show ¬ _ | show _ → _); intro h; first | contradiction | cases h; done | skip)
      all_goals (try (first | refine fin_keep ?_ | refine finm_keep ?_; repeat clear hK))
      refine awp_for (fun st (j : Nat) => st.at [2, 3, 6, 7, 8, 10, 11] [(12, .i (yqV k j : Nat)), (13, .i (n - 1 - (j : Int)))] [.box 26 [.i n, .sl .i64 l], .box 26 [.i n, .sl .i64 l'], .row .i64 3 (vecO n.toNat (desB (cvP l l' n.toNat) (vtV n.toNat) (4 ^ n.toNat) k)), .row .i64 3 (sfxV (vcV n.toNat (4 ^ n.toNat - 1 - k)) (n.toNat - j))]) (fun j => j ≤ n.toNat) (fun j => n.toNat - j) 0 (Nat.zero_le _) ?_ ?_
      · simp [-List.getD_eq_getElem?_getD, -List.length_take, Le, leFr, ASt.at, keepFr, updAll, upd_zero, upd_succ, sfxV_all hvl, yqV_0]
      rintro j hj
      simp only [ASt.at, keepFr, updAll, upd_zero, upd_succ, List.mem_cons, List.not_mem_nil, Nat.reduceEqDiff, Nat.reduceAdd, or_false, or_true, false_or, true_or, ↓reduceIte, eq_self]
      have hpl := sfxV_len (k := n.toNat - j) hvl (by omega)
      rcases Nat.lt_or_ge j n.toNat with hjl | hjl
      · have hti : (n - 1 - (j : Int)).toNat = n.toNat - 1 - j := by omega
        have hq1 := yqV_mod k j
        have hq2 := yqV_div k j
        have hq3 := yqV_le k j
        have hq4 := yqV_le k (j + 1)
        have hq5 := dgt_lt k j
        have hd : (3 : Int) - ((dgt k j : Nat) : Int) = (vcV n.toNat (4 ^ n.toNat - 1 - k)).getD (n.toNat - 1 - j) 0 := by
          rw [vcV_get (by omega), show n.toNat - 1 - (n.toNat - 1 - j) = j by omega, comp_eq (by omega) hkl hjl]; omega
        have hset := sfxV_set (V := vcV n.toNat (4 ^ n.toNat - 1 - k)) (k := n.toNat - 1 - j) (by omega)
        have e1 : n.toNat - j = n.toNat - 1 - j + 1 := by omega
        have e2 : n.toNat - (j + 1) = n.toNat - 1 - j := by omega
        have e3 : n - 1 - ((j : Int) + 1) = n - 1 - j - 1 := by omega
        rw [e1] at hpl ⊢
        repeat' first | ((with_reducible show aol _ _ _ _ _); first | (refine aol_guard_f (by rfl) ?_ ?_; (focus (simp only [go_sem]; done))) | (refine aol_guard_un (by rfl) ?_ ?_; (focus (simp only [go_sem]; done)))) | ((with_reducible refine hK _ ?_); clear hK K; try simp only [nxA, nxB]) | (with_reducible refine awp_seq fun K hK => ?_) | ((first | ((with_reducible show aol _ _ _ _ _); try first | (refine aol_guard_t (by rfl) ?_ ?_; (focus (simp only [go_sem]; done))) | (refine aol_guard_b (by rfl) (by rfl) (fun h => ?_) (fun h => ?_) <;> (try simp only [hsA, hsB, hsC, hsD, hsE, List.all_cons, List.all_nil, ne_eq, reduceCtorEq] at h))) | ((with_reducible show Awp _ _ (Code.region _ _ _) _ _); first | refine awp_regK (by repeat constructor) (fun K hK => ?_) | (refine awp_drwK (by kernel_rfl) (by repeat constructor) (fun K hK => ?_)))) <;> simp (config := { maxSteps := 2000000 }) (disch := omega) only [go_sem, ↓reduceIte, Nat.reduceEqDiff, Nat.reduceAdd, Nat.reduceLT, Nat.reduceLeDiff, Nat.reduceSub, hpl, hti, hq1, hq2, hd, hset]) | ((with_reducible show Awp _ _ (Code.cond _ _ _) _ _); refine awp_cond rfl (fun h => ?_) (fun h => ?_) <;> (try simp only [hsA, hsB, hsC, hsD, hsE, List.all_cons, List.all_nil, ne_eq, reduceCtorEq] at h)) | ((with_reducible first | refine awp_skip ?_ | refine awp_ret ?_); simp only [nxA, nxB]) | (with_reducible refine awp_block ?_) | ((with_reducible refine awp_exit ?_); simp only [nxA, ne_eq, not_false_eq_true, Nat.reduceEqDiff, reduceCtorEq]; try ((first | refine hK _ ?_ | (clear hK K; first | refine hK _ ?_ | (clear hK K; first | refine hK _ ?_ | (clear hK K; refine hK _ ?_)))); clear hK K)) | (with_reducible first | apply And.intro | exact True.intro) | ((with_reducible first | show List.all _ _ = true | show lendOk _ _ = true); rfl) | omega | ((with_reducible first | show ¬ _ | show _ → _); intro h; first | contradiction | cases h; done | skip)
        all_goals (try (first | refine fin_keep ?_ | refine finm_keep ?_; repeat clear hK))
        refine ⟨j + 1, by omega, by omega, ?_⟩
        simp [-List.getD_eq_getElem?_getD, -List.length_take, Le, leFr, ASt.at, keepFr, updAll, upd_zero, upd_succ, e2, e3]
      · obtain rfl : j = n.toNat := by omega
        rw [Nat.sub_self, sfxV_0] at hpl ⊢
        have hb5 := vc_b5 n.toNat (4 ^ n.toNat - 1 - k)
        unfold b5 at hb5
        have hc1 := cvb_pre h1 (4 ^ n.toNat - 1 - k)
        have hc2 := cvb_pre h2 (4 ^ n.toNat - 1 - k)
        have hcl := cbF_lt n
        have hp6 : 2 ^ n.toNat ≤ 16 := Nat.le_trans (Nat.pow_le_pow_right (by omega) (show n.toNat ≤ 4 by omega)) (by decide)
        have hvt : wV (vcV n.toNat (4 ^ n.toNat - 1 - k)) (cbF n) n.toNat = vtV n.toNat (4 ^ n.toNat - 1 - k) := rfl
        repeat' first | ((with_reducible show aol _ _ _ _ _); first | (refine aol_guard_f (by rfl) ?_ ?_; (focus (simp only [go_sem]; done))) | (refine aol_guard_un (by rfl) ?_ ?_; (focus (simp only [go_sem]; done)))) | ((with_reducible refine hK _ ?_); clear hK K; try simp only [nxA, nxB]) | (with_reducible refine awp_seq fun K hK => ?_) | ((first | ((with_reducible show aol _ _ _ _ _); try first | (refine aol_guard_t (by rfl) ?_ ?_; (focus (simp only [go_sem]; done))) | (refine aol_guard_b (by rfl) (by rfl) (fun h => ?_) (fun h => ?_) <;> (try simp only [hsA, hsB, hsC, hsD, hsE, List.all_cons, List.all_nil, ne_eq, reduceCtorEq] at h))) | ((with_reducible show Awp _ _ (Code.region _ _ _) _ _); first | refine awp_regK (by repeat constructor) (fun K hK => ?_) | (refine awp_drwK (by kernel_rfl) (by repeat constructor) (fun K hK => ?_)))) <;> simp (config := { maxSteps := 2000000 }) (disch := omega) only [go_sem, ↓reduceIte, Nat.reduceEqDiff, Nat.reduceAdd, Nat.reduceLT, Nat.reduceLeDiff, Nat.reduceSub, hpl, tFull, hF, tWt, hb5, hvl, hvt, tBlw, hc1, hc2]) | ((with_reducible show Awp _ _ (Code.cond _ _ _) _ _); refine awp_cond rfl (fun h => ?_) (fun h => ?_) <;> (try simp only [hsA, hsB, hsC, hsD, hsE, List.all_cons, List.all_nil, ne_eq, reduceCtorEq] at h)) | ((with_reducible first | refine awp_skip ?_ | refine awp_ret ?_); simp only [nxA, nxB]) | (with_reducible refine awp_block ?_) | ((with_reducible refine awp_exit ?_); simp only [nxA, ne_eq, not_false_eq_true, Nat.reduceEqDiff, reduceCtorEq]; try ((first | refine hK _ ?_ | (clear hK K; first | refine hK _ ?_ | (clear hK K; first | refine hK _ ?_ | (clear hK K; refine hK _ ?_)))); clear hK K)) | (with_reducible first | apply And.intro | exact True.intro) | ((with_reducible first | show List.all _ _ = true | show lendOk _ _ = true); rfl) | omega | ((with_reducible first | show ¬ _ | show _ → _); intro h; first | contradiction | cases h; done | skip)
        all_goals (try (first | refine fin_keep ?_ | refine finm_keep ?_; repeat clear hK))
        · have e1 := desB_yes (p := cvP l l' n.toNat) (t := vtV n.toNat) (N := 4 ^ n.toNat) (k := k) (by assumption) (by rw [cvP, show belV l (vcV n.toNat (4 ^ n.toNat - 1 - k)) = true by assumption, show belV l' (vcV n.toNat (4 ^ n.toNat - 1 - k)) = true by assumption]; rfl)
          refine ⟨k + 1, by omega, by omega, ?_⟩
          exact ⟨[0, 1, 3], rfl, rfl, by simp [-List.getD_eq_getElem?_getD, -List.length_take, List.getD_cons_zero, List.getD_cons_succ, leFr, ASt.at, keepFr, updAll, upd_zero, upd_succ, AV.rnb, AV.rnb0, e1, valO, vecO], by simp [-List.getD_eq_getElem?_getD, List.getD_cons_zero, List.getD_cons_succ, ASt.at, AO.rnb, AV.rnb0, upd_k0, upd_k1, upd_k2, upd_k3, e1, valO, vecO], rfl, rfl⟩
        · have e1 := desB_no (p := cvP l l' n.toNat) (t := vtV n.toNat) (N := 4 ^ n.toNat) (k := k) (.inr (by rw [cvP, show belV l' (vcV n.toNat (4 ^ n.toNat - 1 - k)) = false by assumption, Bool.and_false]))
          refine ⟨k + 1, by omega, by omega, ?_⟩
          exact ⟨[0, 1, 2], rfl, rfl, by simp [-List.getD_eq_getElem?_getD, -List.length_take, List.getD_cons_zero, List.getD_cons_succ, leFr, ASt.at, keepFr, updAll, upd_zero, upd_succ, AV.rnb, AV.rnb0, e1], by simp [-List.getD_eq_getElem?_getD, List.getD_cons_zero, List.getD_cons_succ, ASt.at, AO.rnb, AV.rnb0, upd_k0, upd_k1, upd_k2, upd_k3, e1], rfl, rfl⟩
        · have e1 := desB_no (p := cvP l l' n.toNat) (t := vtV n.toNat) (N := 4 ^ n.toNat) (k := k) (.inr (by rw [cvP, show belV l (vcV n.toNat (4 ^ n.toNat - 1 - k)) = false by assumption, Bool.false_and]))
          refine ⟨k + 1, by omega, by omega, ?_⟩
          exact ⟨[0, 1, 2], rfl, rfl, by simp [-List.getD_eq_getElem?_getD, -List.length_take, List.getD_cons_zero, List.getD_cons_succ, leFr, ASt.at, keepFr, updAll, upd_zero, upd_succ, AV.rnb, AV.rnb0, e1], by simp [-List.getD_eq_getElem?_getD, List.getD_cons_zero, List.getD_cons_succ, ASt.at, AO.rnb, AV.rnb0, upd_k0, upd_k1, upd_k2, upd_k3, e1], rfl, rfl⟩
        · have e1 := desB_no (p := cvP l l' n.toNat) (t := vtV n.toNat) (N := 4 ^ n.toNat) (k := k) (.inl (by assumption))
          refine ⟨k + 1, by omega, by omega, ?_⟩
          exact ⟨[0, 1, 2], rfl, rfl, by simp [-List.getD_eq_getElem?_getD, -List.length_take, List.getD_cons_zero, List.getD_cons_succ, leFr, ASt.at, keepFr, updAll, upd_zero, upd_succ, AV.rnb, AV.rnb0, e1], by simp [-List.getD_eq_getElem?_getD, List.getD_cons_zero, List.getD_cons_succ, ASt.at, AO.rnb, AV.rnb0, upd_k0, upd_k1, upd_k2, upd_k3, e1], rfl, rfl⟩
    · obtain rfl : k = 4 ^ n.toNat := by omega
      repeat' first | ((with_reducible show aol _ _ _ _ _); first | (refine aol_guard_f (by rfl) ?_ ?_; (focus (simp only [go_sem]; done))) | (refine aol_guard_un (by rfl) ?_ ?_; (focus (simp only [go_sem]; done)))) | ((with_reducible refine hK _ ?_); clear hK K; try simp only [nxA, nxB]) | (with_reducible refine awp_seq fun K hK => ?_) | ((first | ((with_reducible show aol _ _ _ _ _); try first | (refine aol_guard_t (by rfl) ?_ ?_; (focus (simp only [go_sem]; done))) | (refine aol_guard_b (by rfl) (by rfl) (fun h => ?_) (fun h => ?_) <;> (try simp only [hsA, hsB, hsC, hsD, hsE, List.all_cons, List.all_nil, ne_eq, reduceCtorEq] at h))) | ((with_reducible show Awp _ _ (Code.region _ _ _) _ _); first | refine awp_regK (by repeat constructor) (fun K hK => ?_) | (refine awp_drwK (by kernel_rfl) (by repeat constructor) (fun K hK => ?_)))) <;> simp (config := { maxSteps := 2000000 }) (disch := omega) only [go_sem, ↓reduceIte, Nat.reduceEqDiff, Nat.reduceAdd, Nat.reduceLT, Nat.reduceLeDiff, Nat.reduceSub]) | ((with_reducible show Awp _ _ (Code.cond _ _ _) _ _); refine awp_cond rfl (fun h => ?_) (fun h => ?_) <;> (try simp only [hsA, hsB, hsC, hsD, hsE, List.all_cons, List.all_nil, ne_eq, reduceCtorEq] at h)) | ((with_reducible first | refine awp_skip ?_ | refine awp_ret ?_); simp only [nxA, nxB]) | (with_reducible refine awp_block ?_) | ((with_reducible refine awp_exit ?_); simp only [nxA, ne_eq, not_false_eq_true, Nat.reduceEqDiff, reduceCtorEq]; try ((first | refine hK _ ?_ | (clear hK K; first | refine hK _ ?_ | (clear hK K; first | refine hK _ ?_ | (clear hK K; refine hK _ ?_)))); clear hK K)) | (with_reducible first | apply And.intro | exact True.intro) | ((with_reducible first | show List.all _ _ = true | show lendOk _ _ = true); rfl) | omega | ((with_reducible first | show ¬ _ | show _ → _); intro h; first | contradiction | cases h; done | skip)
      all_goals (try (first | refine fin_keep ?_ | refine finm_keep ?_; repeat clear hK))
      exact fin_ownb rfl rfl rfl
end Go.Proofs.Ytjlpjkiadohkiaa
