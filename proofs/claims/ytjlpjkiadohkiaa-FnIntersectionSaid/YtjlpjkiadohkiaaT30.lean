import Derived.Test.YtjlpjkiadohkiaaHs
import Derived.Test.YtjlpjkiadohkiaaT29
set_option linter.unusedSimpArgs false
set_option linter.unusedVariables false
set_option maxHeartbeats 2000000
namespace Go.Proofs.Ytjlpjkiadohkiaa
open Go Go.Ab
attribute [local irreducible] aol
attribute [local irreducible] popN


def wV (x : List Int) (s : Nat) : Nat → Int
  | 0 => 0
  | k + 1 => wV x s k + if Nat.testBit s k then x.getD k 0 else 0
theorem wV_1 {x : List Int} {s k : Nat} (h : Nat.testBit s k = true) : wV x s (k + 1) = wV x s k + x.getD k 0 := by show wV x s k + (if _ then _ else _) = _; rw [if_pos h]
theorem wV_0 {x : List Int} {s k : Nat} (h : Nat.testBit s k = false) : wV x s (k + 1) = wV x s k := by show wV x s k + (if _ then _ else _) = _; rw [if_neg (by rw [h]; decide), Int.add_zero]
theorem getD_bd' {l : List Int} {M : Int} (hM : 0 ≤ M) (h : (l.all fun x => inR x (-M) M) = true) (k : Nat) : -M ≤ l.getD k 0 ∧ l.getD k 0 ≤ M := by
  rcases Nat.lt_or_ge k l.length with hk | hk
  · have := getD_all h hk; rwa [inR_iff] at this
  · rw [List.getD_eq_getElem?_getD, List.getElem?_eq_none hk]; simp; omega
theorem wV_bd {x : List Int} (h : (x.all fun x => inR x (-5000) 5000) = true) (s : Nat) : ∀ k : Nat, -5000 * (k : Int) ≤ wV x s k ∧ wV x s k ≤ 5000 * (k : Int)
  | 0 => by unfold wV; omega
  | k + 1 => by
    have h1 := wV_bd h s k
    have h2 := getD_bd' (M := 5000) (by omega) h k
    unfold wV; split <;> omega
theorem wV_or {w : List Int} {s e : Nat} (h : Nat.testBit s e = false) : ∀ {n : Nat}, wV w (s ||| 2 ^ e) n = wV w s n + if e < n then w.getD e 0 else 0
  | 0 => by simp [wV]
  | n + 1 => by
    have ih := wV_or (w := w) h (n := n)
    unfold wV
    rw [ih, Nat.testBit_or, Nat.testBit_two_pow]
    by_cases e1 : e = n
    · subst e1
      rw [h]
      simp [show ¬ e < e by omega]
    · by_cases e2 : e < n
      · simp [e1, e2, show e < n + 1 by omega]; omega
      · simp [e1, e2, show ¬ e < n + 1 by omega]
def tWt : Tab
  | [.sl .i64 x, .i s] => some ((x.length ≤ 6 ∧ (x.all fun x => inR x (-5000) 5000) = true) ∧ 0 ≤ s ∧ s < 64, .i (wV x s.toNat x.length), [])
  | _ => none
theorem implWt_ok : Fits Try.prog 146 tWt := by
  refine ⟨callable_of Try.func146 (by kernel_rfl) rfl, ?_⟩
  intro args p out Ho h hp
  unfold tWt at h
  split at h <;> cases h
  rename_i x s
  refine ⟨acall_by (env_ok (env := []) (by simp)) Try.func146 rfl rfl rfl rfl rfl ?_, rfl, rfl⟩
  intro hlen c hc hX
  simp only [lensOk, AV.lenOk, true_and, and_true] at hlen
  simp only [Try.ntmps146, Try.results146, List.length_cons, List.length_nil, List.replicate, List.cons_append, List.nil_append, Nat.reduceAdd, Nat.reduceSub]
  obtain ⟨⟨hx, hb⟩, hs⟩ := hp
  obtain ⟨s, rfl⟩ := Int.eq_ofNat_of_zero_le hs.1
  rw [Int.toNat_natCast]
  repeat' first | ((with_reducible show aol _ _ _ _ _); first | (refine aol_guard_f (by rfl) ?_ ?_; (focus (simp only [go_sem]; done))) | (refine aol_guard_un (by rfl) ?_ ?_; (focus (simp only [go_sem]; done)))) | ((with_reducible refine hK _ ?_); clear hK K; try simp only [nxA, nxB]) | (with_reducible refine awp_seq fun K hK => ?_) | ((first | ((with_reducible show aol _ _ _ _ _); try first | (refine aol_guard_t (by rfl) ?_ ?_; (focus (simp only [go_sem]; done))) | (refine aol_guard_b (by rfl) (by rfl) (fun h => ?_) (fun h => ?_) <;> (try simp only [hsA, hsB, hsC, hsD, hsE, List.all_cons, List.all_nil, ne_eq, reduceCtorEq] at h))) | ((with_reducible show Awp _ _ (Code.region _ _ _) _ _); first | refine awp_regK (by repeat constructor) (fun K hK => ?_) | (refine awp_drwK (by kernel_rfl) (by repeat constructor) (fun K hK => ?_)))) <;> simp (config := { maxSteps := 2000000 }) (disch := omega) only [go_sem, ↓reduceIte, Nat.reduceEqDiff, Nat.reduceAdd, Nat.reduceLT, Nat.reduceLeDiff, Nat.reduceSub]) | ((with_reducible show Awp _ _ (Code.cond _ _ _) _ _); refine awp_cond rfl (fun h => ?_) (fun h => ?_) <;> (try simp only [hsA, hsB, hsC, hsD, hsE, List.all_cons, List.all_nil, ne_eq, reduceCtorEq] at h)) | ((with_reducible first | refine awp_skip ?_ | refine awp_ret ?_); simp only [nxA, nxB]) | (with_reducible refine awp_block ?_) | ((with_reducible refine awp_exit ?_); simp only [nxA, ne_eq, not_false_eq_true, Nat.reduceEqDiff, reduceCtorEq]; try ((first | refine hK _ ?_ | (clear hK K; first | refine hK _ ?_ | (clear hK K; first | refine hK _ ?_ | (clear hK K; refine hK _ ?_)))); clear hK K)) | (with_reducible first | apply And.intro | exact True.intro) | ((with_reducible first | show List.all _ _ = true | show lendOk _ _ = true); rfl) | omega | ((with_reducible first | show ¬ _ | show _ → _); intro h; first | contradiction | cases h; done | skip)
  all_goals (try (first | refine fin_keep ?_ | refine finm_keep ?_; repeat clear hK))
  refine awp_for (fun st (k : Nat) => st.at [1, 8, 9] [(5, .i (wV x s k)), (10, .i k)] st.hp) (fun k => k ≤ x.length) (fun k => x.length - k) 0 (Nat.zero_le _) ?_ ?_
  · simp [-List.getD_eq_getElem?_getD, -List.length_take, Le, leFr, ASt.at, keepFr, updAll, upd_zero, upd_succ, wV]
  rintro k hk
  simp only [ASt.at, keepFr, updAll, upd_zero, upd_succ, List.mem_cons, List.not_mem_nil, Nat.reduceEqDiff, Nat.reduceAdd, or_false, or_true, false_or, true_or, ↓reduceIte, eq_self]
  have h1 := wV_bd hb s k
  have h2 := getD_bd' (M := 5000) (by omega) hb k
  have hu := u64_id (n := (k : Int)) (by omega) (by omega)
  have hib := ibit (s := s) (e := k) (by omega) (by omega)
  rcases Nat.lt_or_ge k x.length with hkl | hkl
  · cases ht : Nat.testBit s k with
    | true =>
      rw [ht, if_pos rfl] at hib
      have e := wV_1 (x := x) ht
      repeat' first | ((with_reducible show aol _ _ _ _ _); first | (refine aol_guard_f (by rfl) ?_ ?_; (focus (simp only [go_sem]; done))) | (refine aol_guard_un (by rfl) ?_ ?_; (focus (simp only [go_sem]; done)))) | ((with_reducible refine hK _ ?_); clear hK K; try simp only [nxA, nxB]) | (with_reducible refine awp_seq fun K hK => ?_) | ((first | ((with_reducible show aol _ _ _ _ _); try first | (refine aol_guard_t (by rfl) ?_ ?_; (focus (simp only [go_sem]; done))) | (refine aol_guard_b (by rfl) (by rfl) (fun h => ?_) (fun h => ?_) <;> (try simp only [hsA, hsB, hsC, hsD, hsE, List.all_cons, List.all_nil, ne_eq, reduceCtorEq] at h))) | ((with_reducible show Awp _ _ (Code.region _ _ _) _ _); first | refine awp_regK (by repeat constructor) (fun K hK => ?_) | (refine awp_drwK (by kernel_rfl) (by repeat constructor) (fun K hK => ?_)))) <;> simp (config := { maxSteps := 2000000 }) (disch := omega) only [go_sem, ↓reduceIte, Nat.reduceEqDiff, Nat.reduceAdd, Nat.reduceLT, Nat.reduceLeDiff, Nat.reduceSub, hu, hib]) | ((with_reducible show Awp _ _ (Code.cond _ _ _) _ _); refine awp_cond rfl (fun h => ?_) (fun h => ?_) <;> (try simp only [hsA, hsB, hsC, hsD, hsE, List.all_cons, List.all_nil, ne_eq, reduceCtorEq] at h)) | ((with_reducible first | refine awp_skip ?_ | refine awp_ret ?_); simp only [nxA, nxB]) | (with_reducible refine awp_block ?_) | ((with_reducible refine awp_exit ?_); simp only [nxA, ne_eq, not_false_eq_true, Nat.reduceEqDiff, reduceCtorEq]; try ((first | refine hK _ ?_ | (clear hK K; first | refine hK _ ?_ | (clear hK K; first | refine hK _ ?_ | (clear hK K; refine hK _ ?_)))); clear hK K)) | (with_reducible first | apply And.intro | exact True.intro) | ((with_reducible first | show List.all _ _ = true | show lendOk _ _ = true); rfl) | omega | ((with_reducible first | show ¬ _ | show _ → _); intro h; first | contradiction | cases h; done | skip)
      all_goals (try (first | refine fin_keep ?_ | refine finm_keep ?_; repeat clear hK))
      refine ⟨k + 1, by omega, by omega, ?_⟩
      simp [-List.getD_eq_getElem?_getD, -List.length_take, Le, leFr, ASt.at, keepFr, updAll, upd_zero, upd_succ, e]
    | false =>
      rw [ht, if_neg (by decide)] at hib
      have e := wV_0 (x := x) ht
      repeat' first | ((with_reducible show aol _ _ _ _ _); first | (refine aol_guard_f (by rfl) ?_ ?_; (focus (simp only [go_sem]; done))) | (refine aol_guard_un (by rfl) ?_ ?_; (focus (simp only [go_sem]; done)))) | ((with_reducible refine hK _ ?_); clear hK K; try simp only [nxA, nxB]) | (with_reducible refine awp_seq fun K hK => ?_) | ((first | ((with_reducible show aol _ _ _ _ _); try first | (refine aol_guard_t (by rfl) ?_ ?_; (focus (simp only [go_sem]; done))) | (refine aol_guard_b (by rfl) (by rfl) (fun h => ?_) (fun h => ?_) <;> (try simp only [hsA, hsB, hsC, hsD, hsE, List.all_cons, List.all_nil, ne_eq, reduceCtorEq] at h))) | ((with_reducible show Awp _ _ (Code.region _ _ _) _ _); first | refine awp_regK (by repeat constructor) (fun K hK => ?_) | (refine awp_drwK (by kernel_rfl) (by repeat constructor) (fun K hK => ?_)))) <;> simp (config := { maxSteps := 2000000 }) (disch := omega) only [go_sem, ↓reduceIte, Nat.reduceEqDiff, Nat.reduceAdd, Nat.reduceLT, Nat.reduceLeDiff, Nat.reduceSub, hu, hib]) | ((with_reducible show Awp _ _ (Code.cond _ _ _) _ _); refine awp_cond rfl (fun h => ?_) (fun h => ?_) <;> (try simp only [hsA, hsB, hsC, hsD, hsE, List.all_cons, List.all_nil, ne_eq, reduceCtorEq] at h)) | ((with_reducible first | refine awp_skip ?_ | refine awp_ret ?_); simp only [nxA, nxB]) | (with_reducible refine awp_block ?_) | ((with_reducible refine awp_exit ?_); simp only [nxA, ne_eq, not_false_eq_true, Nat.reduceEqDiff, reduceCtorEq]; try ((first | refine hK _ ?_ | (clear hK K; first | refine hK _ ?_ | (clear hK K; first | refine hK _ ?_ | (clear hK K; refine hK _ ?_)))); clear hK K)) | (with_reducible first | apply And.intro | exact True.intro) | ((with_reducible first | show List.all _ _ = true | show lendOk _ _ = true); rfl) | omega | ((with_reducible first | show ¬ _ | show _ → _); intro h; first | contradiction | cases h; done | skip)
      all_goals (try (first | refine fin_keep ?_ | refine finm_keep ?_; repeat clear hK))
      refine ⟨k + 1, by omega, by omega, ?_⟩
      simp [-List.getD_eq_getElem?_getD, -List.length_take, Le, leFr, ASt.at, keepFr, updAll, upd_zero, upd_succ, e]
  · obtain rfl : k = x.length := by omega
    repeat' first | ((with_reducible show aol _ _ _ _ _); first | (refine aol_guard_f (by rfl) ?_ ?_; (focus (simp only [go_sem]; done))) | (refine aol_guard_un (by rfl) ?_ ?_; (focus (simp only [go_sem]; done)))) | ((with_reducible refine hK _ ?_); clear hK K; try simp only [nxA, nxB]) | (with_reducible refine awp_seq fun K hK => ?_) | ((first | ((with_reducible show aol _ _ _ _ _); try first | (refine aol_guard_t (by rfl) ?_ ?_; (focus (simp only [go_sem]; done))) | (refine aol_guard_b (by rfl) (by rfl) (fun h => ?_) (fun h => ?_) <;> (try simp only [hsA, hsB, hsC, hsD, hsE, List.all_cons, List.all_nil, ne_eq, reduceCtorEq] at h))) | ((with_reducible show Awp _ _ (Code.region _ _ _) _ _); first | refine awp_regK (by repeat constructor) (fun K hK => ?_) | (refine awp_drwK (by kernel_rfl) (by repeat constructor) (fun K hK => ?_)))) <;> simp (config := { maxSteps := 2000000 }) (disch := omega) only [go_sem, ↓reduceIte, Nat.reduceEqDiff, Nat.reduceAdd, Nat.reduceLT, Nat.reduceLeDiff, Nat.reduceSub]) | ((with_reducible show Awp _ _ (Code.cond _ _ _) _ _); refine awp_cond rfl (fun h => ?_) (fun h => ?_) <;> (try simp only [hsA, hsB, hsC, hsD, hsE, List.all_cons, List.all_nil, ne_eq, reduceCtorEq] at h)) | ((with_reducible first | refine awp_skip ?_ | refine awp_ret ?_); simp only [nxA, nxB]) | (with_reducible refine awp_block ?_) | ((with_reducible refine awp_exit ?_); simp only [nxA, ne_eq, not_false_eq_true, Nat.reduceEqDiff, reduceCtorEq]; try ((first | refine hK _ ?_ | (clear hK K; first | refine hK _ ?_ | (clear hK K; first | refine hK _ ?_ | (clear hK K; refine hK _ ?_)))); clear hK K)) | (with_reducible first | apply And.intro | exact True.intro) | ((with_reducible first | show List.all _ _ = true | show lendOk _ _ = true); rfl) | omega | ((with_reducible first | show ¬ _ | show _ → _); intro h; first | contradiction | cases h; done | skip)
    all_goals (try (first | refine fin_keep ?_ | refine finm_keep ?_; repeat clear hK))
    refine fin_tmp rfl ?_; rfl
theorem specWt_ok : Fits Try.prog 147 tWt := by
  refine ⟨callable_of Try.func147 (by kernel_rfl) rfl, ?_⟩
  intro args p out Ho h hp
  unfold tWt at h
  split at h <;> cases h
  rename_i x s
  refine ⟨acall_by (env_ok (env := []) (by simp)) Try.func147 rfl rfl rfl rfl rfl ?_, rfl, rfl⟩
  intro hlen c hc hX
  simp only [lensOk, AV.lenOk, true_and, and_true] at hlen
  simp only [Try.ntmps147, Try.results147, List.length_cons, List.length_nil, List.replicate, List.cons_append, List.nil_append, Nat.reduceAdd, Nat.reduceSub]
  obtain ⟨⟨hx, hb⟩, hs⟩ := hp
  obtain ⟨s, rfl⟩ := Int.eq_ofNat_of_zero_le hs.1
  rw [Int.toNat_natCast]
  repeat' first | ((with_reducible show aol _ _ _ _ _); first | (refine aol_guard_f (by rfl) ?_ ?_; (focus (simp only [go_sem]; done))) | (refine aol_guard_un (by rfl) ?_ ?_; (focus (simp only [go_sem]; done)))) | ((with_reducible refine hK _ ?_); clear hK K; try simp only [nxA, nxB]) | (with_reducible refine awp_seq fun K hK => ?_) | ((first | ((with_reducible show aol _ _ _ _ _); try first | (refine aol_guard_t (by rfl) ?_ ?_; (focus (simp only [go_sem]; done))) | (refine aol_guard_b (by rfl) (by rfl) (fun h => ?_) (fun h => ?_) <;> (try simp only [hsA, hsB, hsC, hsD, hsE, List.all_cons, List.all_nil, ne_eq, reduceCtorEq] at h))) | ((with_reducible show Awp _ _ (Code.region _ _ _) _ _); first | refine awp_regK (by repeat constructor) (fun K hK => ?_) | (refine awp_drwK (by kernel_rfl) (by repeat constructor) (fun K hK => ?_)))) <;> simp (config := { maxSteps := 2000000 }) (disch := omega) only [go_sem, ↓reduceIte, Nat.reduceEqDiff, Nat.reduceAdd, Nat.reduceLT, Nat.reduceLeDiff, Nat.reduceSub]) | ((with_reducible show Awp _ _ (Code.cond _ _ _) _ _); refine awp_cond rfl (fun h => ?_) (fun h => ?_) <;> (try simp only [hsA, hsB, hsC, hsD, hsE, List.all_cons, List.all_nil, ne_eq, reduceCtorEq] at h)) | ((with_reducible first | refine awp_skip ?_ | refine awp_ret ?_); simp only [nxA, nxB]) | (with_reducible refine awp_block ?_) | ((with_reducible refine awp_exit ?_); simp only [nxA, ne_eq, not_false_eq_true, Nat.reduceEqDiff, reduceCtorEq]; try ((first | refine hK _ ?_ | (clear hK K; first | refine hK _ ?_ | (clear hK K; first | refine hK _ ?_ | (clear hK K; refine hK _ ?_)))); clear hK K)) | (with_reducible first | apply And.intro | exact True.intro) | ((with_reducible first | show List.all _ _ = true | show lendOk _ _ = true); rfl) | omega | ((with_reducible first | show ¬ _ | show _ → _); intro h; first | contradiction | cases h; done | skip)
  all_goals (try (first | refine fin_keep ?_ | refine finm_keep ?_; repeat clear hK))
  refine awp_for (fun st (k : Nat) => st.at [0, 1] [(5, .i (wV x s k)), (6, .i k)] st.hp) (fun k => k ≤ x.length) (fun k => x.length - k) 0 (Nat.zero_le _) ?_ ?_
  · simp [-List.getD_eq_getElem?_getD, -List.length_take, Le, leFr, ASt.at, keepFr, updAll, upd_zero, upd_succ, wV]
  rintro k hk
  simp only [ASt.at, keepFr, updAll, upd_zero, upd_succ, List.mem_cons, List.not_mem_nil, Nat.reduceEqDiff, Nat.reduceAdd, or_false, or_true, false_or, true_or, ↓reduceIte, eq_self]
  have h1 := wV_bd hb s k
  have h2 := getD_bd' (M := 5000) (by omega) hb k
  have hib := ibit (s := s) (e := k) (by omega) (by omega)
  rcases Nat.lt_or_ge k x.length with hkl | hkl
  · cases ht : Nat.testBit s k with
    | true =>
      rw [ht, if_pos rfl] at hib
      have e := wV_1 (x := x) ht
      repeat' first | ((with_reducible show aol _ _ _ _ _); first | (refine aol_guard_f (by rfl) ?_ ?_; (focus (simp only [go_sem]; done))) | (refine aol_guard_un (by rfl) ?_ ?_; (focus (simp only [go_sem]; done)))) | ((with_reducible refine hK _ ?_); clear hK K; try simp only [nxA, nxB]) | (with_reducible refine awp_seq fun K hK => ?_) | ((first | ((with_reducible show aol _ _ _ _ _); try first | (refine aol_guard_t (by rfl) ?_ ?_; (focus (simp only [go_sem]; done))) | (refine aol_guard_b (by rfl) (by rfl) (fun h => ?_) (fun h => ?_) <;> (try simp only [hsA, hsB, hsC, hsD, hsE, List.all_cons, List.all_nil, ne_eq, reduceCtorEq] at h))) | ((with_reducible show Awp _ _ (Code.region _ _ _) _ _); first | refine awp_regK (by repeat constructor) (fun K hK => ?_) | (refine awp_drwK (by kernel_rfl) (by repeat constructor) (fun K hK => ?_)))) <;> simp (config := { maxSteps := 2000000 }) (disch := omega) only [go_sem, ↓reduceIte, Nat.reduceEqDiff, Nat.reduceAdd, Nat.reduceLT, Nat.reduceLeDiff, Nat.reduceSub, hib]) | ((with_reducible show Awp _ _ (Code.cond _ _ _) _ _); refine awp_cond rfl (fun h => ?_) (fun h => ?_) <;> (try simp only [hsA, hsB, hsC, hsD, hsE, List.all_cons, List.all_nil, ne_eq, reduceCtorEq] at h)) | ((with_reducible first | refine awp_skip ?_ | refine awp_ret ?_); simp only [nxA, nxB]) | (with_reducible refine awp_block ?_) | ((with_reducible refine awp_exit ?_); simp only [nxA, ne_eq, not_false_eq_true, Nat.reduceEqDiff, reduceCtorEq]; try ((first | refine hK _ ?_ | (clear hK K; first | refine hK _ ?_ | (clear hK K; first | refine hK _ ?_ | (clear hK K; refine hK _ ?_)))); clear hK K)) | (with_reducible first | apply And.intro | exact True.intro) | ((with_reducible first | show List.all _ _ = true | show lendOk _ _ = true); rfl) | omega | ((with_reducible first | show ¬ _ | show _ → _); intro h; first | contradiction | cases h; done | skip)
      all_goals (try (first | refine fin_keep ?_ | refine finm_keep ?_; repeat clear hK))
      refine ⟨k + 1, by omega, by omega, ?_⟩
      simp [-List.getD_eq_getElem?_getD, -List.length_take, Le, leFr, ASt.at, keepFr, updAll, upd_zero, upd_succ, e]
    | false =>
      rw [ht, if_neg (by decide)] at hib
      have e := wV_0 (x := x) ht
      repeat' first | ((with_reducible show aol _ _ _ _ _); first | (refine aol_guard_f (by rfl) ?_ ?_; (focus (simp only [go_sem]; done))) | (refine aol_guard_un (by rfl) ?_ ?_; (focus (simp only [go_sem]; done)))) | ((with_reducible refine hK _ ?_); clear hK K; try simp only [nxA, nxB]) | (with_reducible refine awp_seq fun K hK => ?_) | ((first | ((with_reducible show aol _ _ _ _ _); try first | (refine aol_guard_t (by rfl) ?_ ?_; (focus (simp only [go_sem]; done))) | (refine aol_guard_b (by rfl) (by rfl) (fun h => ?_) (fun h => ?_) <;> (try simp only [hsA, hsB, hsC, hsD, hsE, List.all_cons, List.all_nil, ne_eq, reduceCtorEq] at h))) | ((with_reducible show Awp _ _ (Code.region _ _ _) _ _); first | refine awp_regK (by repeat constructor) (fun K hK => ?_) | (refine awp_drwK (by kernel_rfl) (by repeat constructor) (fun K hK => ?_)))) <;> simp (config := { maxSteps := 2000000 }) (disch := omega) only [go_sem, ↓reduceIte, Nat.reduceEqDiff, Nat.reduceAdd, Nat.reduceLT, Nat.reduceLeDiff, Nat.reduceSub, hib]) | ((with_reducible show Awp _ _ (Code.cond _ _ _) _ _); refine awp_cond rfl (fun h => ?_) (fun h => ?_) <;> (try simp only [hsA, hsB, hsC, hsD, hsE, List.all_cons, List.all_nil, ne_eq, reduceCtorEq] at h)) | ((with_reducible first | refine awp_skip ?_ | refine awp_ret ?_); simp only [nxA, nxB]) | (with_reducible refine awp_block ?_) | ((with_reducible refine awp_exit ?_); simp only [nxA, ne_eq, not_false_eq_true, Nat.reduceEqDiff, reduceCtorEq]; try ((first | refine hK _ ?_ | (clear hK K; first | refine hK _ ?_ | (clear hK K; first | refine hK _ ?_ | (clear hK K; refine hK _ ?_)))); clear hK K)) | (with_reducible first | apply And.intro | exact True.intro) | ((with_reducible first | show List.all _ _ = true | show lendOk _ _ = true); rfl) | omega | ((with_reducible first | show ¬ _ | show _ → _); intro h; first | contradiction | cases h; done | skip)
      all_goals (try (first | refine fin_keep ?_ | refine finm_keep ?_; repeat clear hK))
      refine ⟨k + 1, by omega, by omega, ?_⟩
      simp [-List.getD_eq_getElem?_getD, -List.length_take, Le, leFr, ASt.at, keepFr, updAll, upd_zero, upd_succ, e]
  · obtain rfl : k = x.length := by omega
    repeat' first | ((with_reducible show aol _ _ _ _ _); first | (refine aol_guard_f (by rfl) ?_ ?_; (focus (simp only [go_sem]; done))) | (refine aol_guard_un (by rfl) ?_ ?_; (focus (simp only [go_sem]; done)))) | ((with_reducible refine hK _ ?_); clear hK K; try simp only [nxA, nxB]) | (with_reducible refine awp_seq fun K hK => ?_) | ((first | ((with_reducible show aol _ _ _ _ _); try first | (refine aol_guard_t (by rfl) ?_ ?_; (focus (simp only [go_sem]; done))) | (refine aol_guard_b (by rfl) (by rfl) (fun h => ?_) (fun h => ?_) <;> (try simp only [hsA, hsB, hsC, hsD, hsE, List.all_cons, List.all_nil, ne_eq, reduceCtorEq] at h))) | ((with_reducible show Awp _ _ (Code.region _ _ _) _ _); first | refine awp_regK (by repeat constructor) (fun K hK => ?_) | (refine awp_drwK (by kernel_rfl) (by repeat constructor) (fun K hK => ?_)))) <;> simp (config := { maxSteps := 2000000 }) (disch := omega) only [go_sem, ↓reduceIte, Nat.reduceEqDiff, Nat.reduceAdd, Nat.reduceLT, Nat.reduceLeDiff, Nat.reduceSub]) | ((with_reducible show Awp _ _ (Code.cond _ _ _) _ _); refine awp_cond rfl (fun h => ?_) (fun h => ?_) <;> (try simp only [hsA, hsB, hsC, hsD, hsE, List.all_cons, List.all_nil, ne_eq, reduceCtorEq] at h)) | ((with_reducible first | refine awp_skip ?_ | refine awp_ret ?_); simp only [nxA, nxB]) | (with_reducible refine awp_block ?_) | ((with_reducible refine awp_exit ?_); simp only [nxA, ne_eq, not_false_eq_true, Nat.reduceEqDiff, reduceCtorEq]; try ((first | refine hK _ ?_ | (clear hK K; first | refine hK _ ?_ | (clear hK K; first | refine hK _ ?_ | (clear hK K; refine hK _ ?_)))); clear hK K)) | (with_reducible first | apply And.intro | exact True.intro) | ((with_reducible first | show List.all _ _ = true | show lendOk _ _ = true); rfl) | omega | ((with_reducible first | show ¬ _ | show _ → _); intro h; first | contradiction | cases h; done | skip)
    all_goals (try (first | refine fin_keep ?_ | refine finm_keep ?_; repeat clear hK))
    refine fin_tmp rfl ?_; rfl

theorem finm_pairb {C : Cfg} {t u : Tmp} {b : Nat} {T T' : TypeId} {k : IntKind} {E : TypeId} {l : List Int} {n : Int} {x : Bool} {d : TD} {s : ASt} (hT : C.Γ T = some d) (ha : d.agg = true) (hs : d.size = 2) (h : nth s.fr t = .bp b 0)
    (hb : s.hp[b]? = some (.box T' [.i n, .own 0])) (hh : s.hp[0]? = some (.row k E l)) (hu : nth s.fr u = .b x) : FinSM 1 C [.cell t T, .tmp u] (.tu [.ag [.i n, .own 0], .b x]) [.row k E l] s := by
  exact ⟨s, Wk.refl s, (0 + 2 ≤ 2) ∧ True ∧ True, .tu [.ag [.i n, .own 0], .b x], by simp [resV, resVs, resV1, aLoad, hT, ha, hs, h, hb, hu], ⟨by omega, trivial, trivial⟩, [0], by simp, rfl, rfl, by simp [hh, AO.ren]⟩
theorem finm_pairb_nl {C : Cfg} {t u : Tmp} {b : Nat} {T T' : TypeId} {k : IntKind} {E : TypeId} {l : List Int} {n : Int} {x : Bool} {d : TD} {s : ASt} (hT : C.Γ T = some d) (ha : d.agg = true) (hs : d.size = 2) (h : nth s.fr t = .bp b 0)
    (hb : s.hp[b]? = some (.box T' [.i n, .nl])) (hh : s.hp[0]? = some (.row k E l)) (hu : nth s.fr u = .b x) : FinSM 1 C [.cell t T, .tmp u] (.tu [.ag [.i n, .nl], .b x]) [.row k E l] s := by
  exact ⟨s, Wk.refl s, (0 + 2 ≤ 2) ∧ True ∧ True, .tu [.ag [.i n, .nl], .b x], by simp [resV, resVs, resV1, aLoad, hT, ha, hs, h, hb, hu], ⟨by omega, trivial, trivial⟩, [0], by simp, rfl, rfl, by simp [hh, AO.ren]⟩
def tMade : MTab
  | [.i n, .own 0], [.row .i64 E l] => if fnV n l = true then some (True, .tu [.ag [.i n, .own 0], .b true], [.row .i64 E l]) else some (True, .tu [.ag [.i 0, .nl], .b false], [.row .i64 E l])
  | _, _ => none
theorem tMade_yes {n : Int} {l : List Int} {E : TypeId} (h : fnV n l = true) : tMade [.i n, .own 0] [.row .i64 E l] = some (True, .tu [.ag [.i n, .own 0], .b true], [.row .i64 E l]) := by
  exact if_pos h
theorem tMade_no {n : Int} {l : List Int} {E : TypeId} (h : fnV n l = false) : tMade [.i n, .own 0] [.row .i64 E l] = some (True, .tu [.ag [.i 0, .nl], .b false], [.row .i64 E l]) := by
  exact if_neg (by rw [h]; decide)
theorem made_ok : FitsM Try.prog 150 tMade := by
  refine ⟨?_⟩
  intro args L p out Ho h hp
  unfold tMade at h
  split at h
  · rename_i n E l
    split at h <;> cases h <;> rename_i hfn
    · refine mok_by (env_ok (env := [(163, tIsFn)]) (by simp only [List.forall_mem_cons, List.not_mem_nil, false_implies, implies_true, and_true]; exact specIsFn_ok)) (callable_of Try.func150 (by kernel_rfl) rfl) Try.func150 rfl rfl rfl rfl rfl (by simp) ?_
      intro hlen c hc hX
      simp only [Try.ntmps150, Try.results150, List.length_cons, List.length_nil, List.replicate, List.cons_append, List.nil_append, Nat.reduceAdd, Nat.reduceSub]
      repeat' first | ((with_reducible show aol _ _ _ _ _); first | (refine aol_guard_f (by rfl) ?_ ?_; (focus (simp only [go_sem]; done))) | (refine aol_guard_un (by rfl) ?_ ?_; (focus (simp only [go_sem]; done)))) | ((with_reducible refine hK _ ?_); clear hK K; try simp only [nxA, nxB]) | (with_reducible refine awp_seq fun K hK => ?_) | ((first | ((with_reducible show aol _ _ _ _ _); try first | (refine aol_guard_t (by rfl) ?_ ?_; (focus (simp only [go_sem]; done))) | (refine aol_guard_b (by rfl) (by rfl) (fun h => ?_) (fun h => ?_) <;> (try simp only [hsA, hsB, hsC, hsD, hsE, List.all_cons, List.all_nil, ne_eq, reduceCtorEq] at h))) | ((with_reducible show Awp _ _ (Code.region _ _ _) _ _); first | refine awp_regK (by repeat constructor) (fun K hK => ?_) | (refine awp_drwK (by kernel_rfl) (by repeat constructor) (fun K hK => ?_)))) <;> simp (config := { maxSteps := 2000000 }) (disch := omega) only [go_sem, ↓reduceIte, Nat.reduceEqDiff, Nat.reduceAdd, Nat.reduceLT, Nat.reduceLeDiff, Nat.reduceSub, tIsFn, hfn]) | ((with_reducible show Awp _ _ (Code.cond _ _ _) _ _); refine awp_cond rfl (fun h => ?_) (fun h => ?_) <;> (try simp only [hsA, hsB, hsC, hsD, hsE, List.all_cons, List.all_nil, ne_eq, reduceCtorEq] at h)) | ((with_reducible first | refine awp_skip ?_ | refine awp_ret ?_); simp only [nxA, nxB]) | (with_reducible refine awp_block ?_) | ((with_reducible refine awp_exit ?_); simp only [nxA, ne_eq, not_false_eq_true, Nat.reduceEqDiff, reduceCtorEq]; try ((first | refine hK _ ?_ | (clear hK K; first | refine hK _ ?_ | (clear hK K; first | refine hK _ ?_ | (clear hK K; refine hK _ ?_)))); clear hK K)) | (with_reducible first | apply And.intro | exact True.intro) | ((with_reducible first | show List.all _ _ = true | show lendOk _ _ = true); rfl) | omega | ((with_reducible first | show ¬ _ | show _ → _); intro h; first | contradiction | cases h; done | skip)
      all_goals (try (first | refine fin_keep ?_ | refine finm_keep ?_; repeat clear hK))
      exact finm_pairb (d := tPair) rfl rfl rfl rfl rfl rfl rfl
    · have hfn' : fnV n l = false := Bool.eq_false_iff.2 hfn
      refine mok_by (env_ok (env := [(163, tIsFn)]) (by simp only [List.forall_mem_cons, List.not_mem_nil, false_implies, implies_true, and_true]; exact specIsFn_ok)) (callable_of Try.func150 (by kernel_rfl) rfl) Try.func150 rfl rfl rfl rfl rfl (by simp) ?_
      intro hlen c hc hX
      simp only [Try.ntmps150, Try.results150, List.length_cons, List.length_nil, List.replicate, List.cons_append, List.nil_append, Nat.reduceAdd, Nat.reduceSub]
      repeat' first | ((with_reducible show aol _ _ _ _ _); first | (refine aol_guard_f (by rfl) ?_ ?_; (focus (simp only [go_sem]; done))) | (refine aol_guard_un (by rfl) ?_ ?_; (focus (simp only [go_sem]; done)))) | ((with_reducible refine hK _ ?_); clear hK K; try simp only [nxA, nxB]) | (with_reducible refine awp_seq fun K hK => ?_) | ((first | ((with_reducible show aol _ _ _ _ _); try first | (refine aol_guard_t (by rfl) ?_ ?_; (focus (simp only [go_sem]; done))) | (refine aol_guard_b (by rfl) (by rfl) (fun h => ?_) (fun h => ?_) <;> (try simp only [hsA, hsB, hsC, hsD, hsE, List.all_cons, List.all_nil, ne_eq, reduceCtorEq] at h))) | ((with_reducible show Awp _ _ (Code.region _ _ _) _ _); first | refine awp_regK (by repeat constructor) (fun K hK => ?_) | (refine awp_drwK (by kernel_rfl) (by repeat constructor) (fun K hK => ?_)))) <;> simp (config := { maxSteps := 2000000 }) (disch := omega) only [go_sem, ↓reduceIte, Nat.reduceEqDiff, Nat.reduceAdd, Nat.reduceLT, Nat.reduceLeDiff, Nat.reduceSub, tIsFn, hfn']) | ((with_reducible show Awp _ _ (Code.cond _ _ _) _ _); refine awp_cond rfl (fun h => ?_) (fun h => ?_) <;> (try simp only [hsA, hsB, hsC, hsD, hsE, List.all_cons, List.all_nil, ne_eq, reduceCtorEq] at h)) | ((with_reducible first | refine awp_skip ?_ | refine awp_ret ?_); simp only [nxA, nxB]) | (with_reducible refine awp_block ?_) | ((with_reducible refine awp_exit ?_); simp only [nxA, ne_eq, not_false_eq_true, Nat.reduceEqDiff, reduceCtorEq]; try ((first | refine hK _ ?_ | (clear hK K; first | refine hK _ ?_ | (clear hK K; first | refine hK _ ?_ | (clear hK K; refine hK _ ?_)))); clear hK K)) | (with_reducible first | apply And.intro | exact True.intro) | ((with_reducible first | show List.all _ _ = true | show lendOk _ _ = true); rfl) | omega | ((with_reducible first | show ¬ _ | show _ → _); intro h; first | contradiction | cases h; done | skip)
      all_goals (try (first | refine fin_keep ?_ | refine finm_keep ?_; repeat clear hK))
      exact finm_pairb_nl (d := tPair) rfl rfl rfl rfl rfl rfl rfl
  · cases h

end Go.Proofs.Ytjlpjkiadohkiaa
