import Derived.Test.YthoionlldmfpiaaGreatHs
import Derived.Test.YthoionlldmfpiaaGreatT29
set_option linter.unusedSimpArgs false
set_option linter.unusedVariables false
set_option maxHeartbeats 2000000
namespace Go.Proofs.YthoionlldmfpiaaGreat
open Go Go.Ab
attribute [local irreducible] aol
attribute [local irreducible] popN
def wV (x : List Int) (s : Nat) : Nat → Int
  | 0 => 0
  | k + 1 => wV x s k + if Nat.testBit s k then x.getD k 0 else 0
theorem wV_1 {x : List Int} {s k : Nat} (h : Nat.testBit s k = true) : wV x s (k + 1) = wV x s k + x.getD k 0 := by show wV x s k + (if _ then _ else _) = _; rw [if_pos h]
theorem wV_0 {x : List Int} {s k : Nat} (h : Nat.testBit s k = false) : wV x s (k + 1) = wV x s k := by show wV x s k + (if _ then _ else _) = _; rw [if_neg (by rw [h]; decide), Int.add_zero]
theorem getD_bd' {l : List Int} {M : Int} (hM : 0 ≤ M) (h : (l.all fun x => inR x (-M) M) = true) (k : Nat) : -M ≤ l.getD k 0 ∧ l.getD k 0 ≤ M := by
  rcases Nat.lt_or_ge k l.length with hk | hk
  · have := getD_all h hk; rwa [inR_iff] at this
  · rw [List.getD_eq_getElem?_getD, List.getElem?_eq_none hk]; simp; omega
theorem wV_bd {x : List Int} (h : (x.all fun x => inR x (-5000) 5000) = true) (s : Nat) : ∀ k : Nat, -5000 * (k : Int) ≤ wV x s k ∧ wV x s k ≤ 5000 * (k : Int)
  | 0 => by unfold wV; omega
  | k + 1 => by
    have h1 := wV_bd h s k
    have h2 := getD_bd' (M := 5000) (by omega) h k
    unfold wV; split <;> omega
theorem wV_or {w : List Int} {s e : Nat} (h : Nat.testBit s e = false) : ∀ {n : Nat}, wV w (s ||| 2 ^ e) n = wV w s n + if e < n then w.getD e 0 else 0
  | 0 => by simp [wV]
  | n + 1 => by
    have ih := wV_or (w := w) h (n := n)
    unfold wV
    rw [ih, Nat.testBit_or, Nat.testBit_two_pow]
    by_cases e1 : e = n
    · subst e1
      rw [h]
      simp [show ¬ e < e by omega]
    · by_cases e2 : e < n
      · simp [e1, e2, show e < n + 1 by omega]; omega
      · simp [e1, e2, show ¬ e < n + 1 by omega]
def tWt : Tab
  | [.sl .i64 x, .i s] => some ((x.length ≤ 6 ∧ (x.all fun x => inR x (-5000) 5000) = true) ∧ 0 ≤ s ∧ s < 64, .i (wV x s.toNat x.length), [])
  | _ => none
theorem implWt_ok : Fits Tryz.prog 62 tWt := by
  refine ⟨callable_of Tryz.func62 (by kernel_rfl) rfl, ?_⟩
  intro args p out Ho h hp
  unfold tWt at h
  split at h <;> cases h
  rename_i x s
  refine ⟨acall_by (env_ok (env := []) (by simp)) Tryz.func62 rfl rfl rfl rfl rfl ?_, rfl, rfl⟩
  intro hlen c hc hX
  simp only [lensOk, AV.lenOk, true_and, and_true] at hlen
  simp only [Tryz.ntmps62, Tryz.results62, lsA, List.replicate, Nat.reduceAdd, Nat.reduceSub]
  obtain ⟨⟨hx, hb⟩, hs⟩ := hp
  obtain ⟨s, rfl⟩ := Int.eq_ofNat_of_zero_le hs.1
  rw [Int.toNat_natCast]
  repeat' first | ((with_reducible show aol _ _ _ _ _); first|(refine gF (by rfl) ?_ ?_; focus simp only [go_sem]; done)|(refine gU (by rfl) ?_ ?_; focus simp only [go_sem]; done))|((with_reducible refine hK _ ?_); clear hK K; try simp only [nx])|(with_reducible first|refine aS fun K hK => ?_|refine aB ?_|apply And.intro|exact True.intro)|((first|((with_reducible show aol _ _ _ _ _); try first|(refine gT (by rfl) ?_ ?_; focus simp only [go_sem]; done)|refine gB (by rfl) (by rfl) (fun h => ?_) (fun h => ?_) <;> (try simp only [hsX, reduceCtorEq] at h))|((with_reducible show Awp _ _ (Code.region _ _ _) _ _); first|refine rK (by repeat constructor) (fun K hK => ?_)|(refine dK (by kernel_rfl) (by repeat constructor) (fun K hK => ?_)))) <;> simp (maxSteps := 2000000) (disch := omega) only [go_sem, ↓reduceIte, Nat.reduceEqDiff, Nat.reduceAdd, Nat.reduceLT, Nat.reduceLeDiff, Nat.reduceSub])|((with_reducible show Awp _ _ (Code.cond _ _ _) _ _); refine aC rfl (fun h => ?_) (fun h => ?_) <;> (try simp only [hsX, reduceCtorEq] at h))|((with_reducible first|refine aK ?_|refine aR ?_); simp only [nx])|((with_reducible refine aE ?_); simp only [nx, ne_eq, not_false_eq_true, Nat.reduceEqDiff, reduceCtorEq]; try ((repeat ((fail_if_success refine hK _ ?_); clear hK K)); refine hK _ ?_; clear hK K))|((with_reducible first|show List.all _ _ = true|show lendOk _ _ = true); rfl)|omega|((with_reducible first|show ¬ _|show _ → _); intro h; first|contradiction|cases h; done|skip)
  all_goals (try (first|refine fK ?_|refine fM ?_; repeat clear hK))
  refine awp_for (fun st (k : Nat) => st.at [1, 8, 9] [(5, .i (wV x s k)), (10, .i k)] st.hp) (fun k => k ≤ x.length) (fun k => x.length - k) 0 (Nat.zero_le _) ?_ ?_
  · simp [-List.getD_eq_getElem?_getD, -List.length_take, Le, leFr, ASt.at, keepFr, updAll, upd_zero, upd_succ, wV]
  rintro k hk
  simp only [ASt.at, keepFr, updAll, upd_zero, upd_succ, lgA, Nat.reduceEqDiff, Nat.reduceAdd, ↓reduceIte, eq_self]
  have h1 := wV_bd hb s k
  have h2 := getD_bd' (M := 5000) (by omega) hb k
  have hu := u64_id (n := (k : Int)) (by omega) (by omega)
  have hib := ibit (s := s) (e := k) (by omega) (by omega)
  rcases Nat.lt_or_ge k x.length with hkl | hkl
  · cases ht : Nat.testBit s k with
    | true =>
      rw [ht, if_pos rfl] at hib
      have e := wV_1 (x := x) ht
      repeat' first | ((with_reducible show aol _ _ _ _ _); first|(refine gF (by rfl) ?_ ?_; focus simp only [go_sem]; done)|(refine gU (by rfl) ?_ ?_; focus simp only [go_sem]; done))|((with_reducible refine hK _ ?_); clear hK K; try simp only [nx])|(with_reducible first|refine aS fun K hK => ?_|refine aB ?_|apply And.intro|exact True.intro)|((first|((with_reducible show aol _ _ _ _ _); try first|(refine gT (by rfl) ?_ ?_; focus simp only [go_sem]; done)|refine gB (by rfl) (by rfl) (fun h => ?_) (fun h => ?_) <;> (try simp only [hsX, reduceCtorEq] at h))|((with_reducible show Awp _ _ (Code.region _ _ _) _ _); first|refine rK (by repeat constructor) (fun K hK => ?_)|(refine dK (by kernel_rfl) (by repeat constructor) (fun K hK => ?_)))) <;> simp (maxSteps := 2000000) (disch := omega) only [go_sem, ↓reduceIte, Nat.reduceEqDiff, Nat.reduceAdd, Nat.reduceLT, Nat.reduceLeDiff, Nat.reduceSub, hu, hib])|((with_reducible show Awp _ _ (Code.cond _ _ _) _ _); refine aC rfl (fun h => ?_) (fun h => ?_) <;> (try simp only [hsX, reduceCtorEq] at h))|((with_reducible first|refine aK ?_|refine aR ?_); simp only [nx])|((with_reducible refine aE ?_); simp only [nx, ne_eq, not_false_eq_true, Nat.reduceEqDiff, reduceCtorEq]; try ((repeat ((fail_if_success refine hK _ ?_); clear hK K)); refine hK _ ?_; clear hK K))|((with_reducible first|show List.all _ _ = true|show lendOk _ _ = true); rfl)|omega|((with_reducible first|show ¬ _|show _ → _); intro h; first|contradiction|cases h; done|skip)
      all_goals (try (first|refine fK ?_|refine fM ?_; repeat clear hK))
      refine ⟨k + 1, by omega, by omega, ?_⟩
      simp [-List.getD_eq_getElem?_getD, -List.length_take, Le, leFr, ASt.at, keepFr, updAll, upd_zero, upd_succ, e]
    | false =>
      rw [ht, if_neg (by decide)] at hib
      have e := wV_0 (x := x) ht
      repeat' first | ((with_reducible show aol _ _ _ _ _); first|(refine gF (by rfl) ?_ ?_; focus simp only [go_sem]; done)|(refine gU (by rfl) ?_ ?_; focus simp only [go_sem]; done))|((with_reducible refine hK _ ?_); clear hK K; try simp only [nx])|(with_reducible first|refine aS fun K hK => ?_|refine aB ?_|apply And.intro|exact True.intro)|((first|((with_reducible show aol _ _ _ _ _); try first|(refine gT (by rfl) ?_ ?_; focus simp only [go_sem]; done)|refine gB (by rfl) (by rfl) (fun h => ?_) (fun h => ?_) <;> (try simp only [hsX, reduceCtorEq] at h))|((with_reducible show Awp _ _ (Code.region _ _ _) _ _); first|refine rK (by repeat constructor) (fun K hK => ?_)|(refine dK (by kernel_rfl) (by repeat constructor) (fun K hK => ?_)))) <;> simp (maxSteps := 2000000) (disch := omega) only [go_sem, ↓reduceIte, Nat.reduceEqDiff, Nat.reduceAdd, Nat.reduceLT, Nat.reduceLeDiff, Nat.reduceSub, hu, hib])|((with_reducible show Awp _ _ (Code.cond _ _ _) _ _); refine aC rfl (fun h => ?_) (fun h => ?_) <;> (try simp only [hsX, reduceCtorEq] at h))|((with_reducible first|refine aK ?_|refine aR ?_); simp only [nx])|((with_reducible refine aE ?_); simp only [nx, ne_eq, not_false_eq_true, Nat.reduceEqDiff, reduceCtorEq]; try ((repeat ((fail_if_success refine hK _ ?_); clear hK K)); refine hK _ ?_; clear hK K))|((with_reducible first|show List.all _ _ = true|show lendOk _ _ = true); rfl)|omega|((with_reducible first|show ¬ _|show _ → _); intro h; first|contradiction|cases h; done|skip)
      all_goals (try (first|refine fK ?_|refine fM ?_; repeat clear hK))
      refine ⟨k + 1, by omega, by omega, ?_⟩
      simp [-List.getD_eq_getElem?_getD, -List.length_take, Le, leFr, ASt.at, keepFr, updAll, upd_zero, upd_succ, e]
  · obtain rfl : k = x.length := by omega
    repeat' first | ((with_reducible show aol _ _ _ _ _); first|(refine gF (by rfl) ?_ ?_; focus simp only [go_sem]; done)|(refine gU (by rfl) ?_ ?_; focus simp only [go_sem]; done))|((with_reducible refine hK _ ?_); clear hK K; try simp only [nx])|(with_reducible first|refine aS fun K hK => ?_|refine aB ?_|apply And.intro|exact True.intro)|((first|((with_reducible show aol _ _ _ _ _); try first|(refine gT (by rfl) ?_ ?_; focus simp only [go_sem]; done)|refine gB (by rfl) (by rfl) (fun h => ?_) (fun h => ?_) <;> (try simp only [hsX, reduceCtorEq] at h))|((with_reducible show Awp _ _ (Code.region _ _ _) _ _); first|refine rK (by repeat constructor) (fun K hK => ?_)|(refine dK (by kernel_rfl) (by repeat constructor) (fun K hK => ?_)))) <;> simp (maxSteps := 2000000) (disch := omega) only [go_sem, ↓reduceIte, Nat.reduceEqDiff, Nat.reduceAdd, Nat.reduceLT, Nat.reduceLeDiff, Nat.reduceSub])|((with_reducible show Awp _ _ (Code.cond _ _ _) _ _); refine aC rfl (fun h => ?_) (fun h => ?_) <;> (try simp only [hsX, reduceCtorEq] at h))|((with_reducible first|refine aK ?_|refine aR ?_); simp only [nx])|((with_reducible refine aE ?_); simp only [nx, ne_eq, not_false_eq_true, Nat.reduceEqDiff, reduceCtorEq]; try ((repeat ((fail_if_success refine hK _ ?_); clear hK K)); refine hK _ ?_; clear hK K))|((with_reducible first|show List.all _ _ = true|show lendOk _ _ = true); rfl)|omega|((with_reducible first|show ¬ _|show _ → _); intro h; first|contradiction|cases h; done|skip)
    all_goals (try (first|refine fK ?_|refine fM ?_; repeat clear hK))
    refine fin_tmp rfl ?_; rfl
theorem specWt_ok : Fits Tryz.prog 81 tWt := by
  refine ⟨callable_of Tryz.func81 (by kernel_rfl) rfl, ?_⟩
  intro args p out Ho h hp
  unfold tWt at h
  split at h <;> cases h
  rename_i x s
  refine ⟨acall_by (env_ok (env := []) (by simp)) Tryz.func81 rfl rfl rfl rfl rfl ?_, rfl, rfl⟩
  intro hlen c hc hX
  simp only [lensOk, AV.lenOk, true_and, and_true] at hlen
  simp only [Tryz.ntmps81, Tryz.results81, lsA, List.replicate, Nat.reduceAdd, Nat.reduceSub]
  obtain ⟨⟨hx, hb⟩, hs⟩ := hp
  obtain ⟨s, rfl⟩ := Int.eq_ofNat_of_zero_le hs.1
  rw [Int.toNat_natCast]
  repeat' first | ((with_reducible show aol _ _ _ _ _); first|(refine gF (by rfl) ?_ ?_; focus simp only [go_sem]; done)|(refine gU (by rfl) ?_ ?_; focus simp only [go_sem]; done))|((with_reducible refine hK _ ?_); clear hK K; try simp only [nx])|(with_reducible first|refine aS fun K hK => ?_|refine aB ?_|apply And.intro|exact True.intro)|((first|((with_reducible show aol _ _ _ _ _); try first|(refine gT (by rfl) ?_ ?_; focus simp only [go_sem]; done)|refine gB (by rfl) (by rfl) (fun h => ?_) (fun h => ?_) <;> (try simp only [hsX, reduceCtorEq] at h))|((with_reducible show Awp _ _ (Code.region _ _ _) _ _); first|refine rK (by repeat constructor) (fun K hK => ?_)|(refine dK (by kernel_rfl) (by repeat constructor) (fun K hK => ?_)))) <;> simp (maxSteps := 2000000) (disch := omega) only [go_sem, ↓reduceIte, Nat.reduceEqDiff, Nat.reduceAdd, Nat.reduceLT, Nat.reduceLeDiff, Nat.reduceSub])|((with_reducible show Awp _ _ (Code.cond _ _ _) _ _); refine aC rfl (fun h => ?_) (fun h => ?_) <;> (try simp only [hsX, reduceCtorEq] at h))|((with_reducible first|refine aK ?_|refine aR ?_); simp only [nx])|((with_reducible refine aE ?_); simp only [nx, ne_eq, not_false_eq_true, Nat.reduceEqDiff, reduceCtorEq]; try ((repeat ((fail_if_success refine hK _ ?_); clear hK K)); refine hK _ ?_; clear hK K))|((with_reducible first|show List.all _ _ = true|show lendOk _ _ = true); rfl)|omega|((with_reducible first|show ¬ _|show _ → _); intro h; first|contradiction|cases h; done|skip)
  all_goals (try (first|refine fK ?_|refine fM ?_; repeat clear hK))
  refine awp_for (fun st (k : Nat) => st.at [0, 1] [(5, .i (wV x s k)), (6, .i k)] st.hp) (fun k => k ≤ x.length) (fun k => x.length - k) 0 (Nat.zero_le _) ?_ ?_
  · simp [-List.getD_eq_getElem?_getD, -List.length_take, Le, leFr, ASt.at, keepFr, updAll, upd_zero, upd_succ, wV]
  rintro k hk
  simp only [ASt.at, keepFr, updAll, upd_zero, upd_succ, lgA, Nat.reduceEqDiff, Nat.reduceAdd, ↓reduceIte, eq_self]
  have h1 := wV_bd hb s k
  have h2 := getD_bd' (M := 5000) (by omega) hb k
  have hib := ibit (s := s) (e := k) (by omega) (by omega)
  rcases Nat.lt_or_ge k x.length with hkl | hkl
  · cases ht : Nat.testBit s k with
    | true =>
      rw [ht, if_pos rfl] at hib
      have e := wV_1 (x := x) ht
      repeat' first | ((with_reducible show aol _ _ _ _ _); first|(refine gF (by rfl) ?_ ?_; focus simp only [go_sem]; done)|(refine gU (by rfl) ?_ ?_; focus simp only [go_sem]; done))|((with_reducible refine hK _ ?_); clear hK K; try simp only [nx])|(with_reducible first|refine aS fun K hK => ?_|refine aB ?_|apply And.intro|exact True.intro)|((first|((with_reducible show aol _ _ _ _ _); try first|(refine gT (by rfl) ?_ ?_; focus simp only [go_sem]; done)|refine gB (by rfl) (by rfl) (fun h => ?_) (fun h => ?_) <;> (try simp only [hsX, reduceCtorEq] at h))|((with_reducible show Awp _ _ (Code.region _ _ _) _ _); first|refine rK (by repeat constructor) (fun K hK => ?_)|(refine dK (by kernel_rfl) (by repeat constructor) (fun K hK => ?_)))) <;> simp (maxSteps := 2000000) (disch := omega) only [go_sem, ↓reduceIte, Nat.reduceEqDiff, Nat.reduceAdd, Nat.reduceLT, Nat.reduceLeDiff, Nat.reduceSub, hib])|((with_reducible show Awp _ _ (Code.cond _ _ _) _ _); refine aC rfl (fun h => ?_) (fun h => ?_) <;> (try simp only [hsX, reduceCtorEq] at h))|((with_reducible first|refine aK ?_|refine aR ?_); simp only [nx])|((with_reducible refine aE ?_); simp only [nx, ne_eq, not_false_eq_true, Nat.reduceEqDiff, reduceCtorEq]; try ((repeat ((fail_if_success refine hK _ ?_); clear hK K)); refine hK _ ?_; clear hK K))|((with_reducible first|show List.all _ _ = true|show lendOk _ _ = true); rfl)|omega|((with_reducible first|show ¬ _|show _ → _); intro h; first|contradiction|cases h; done|skip)
      all_goals (try (first|refine fK ?_|refine fM ?_; repeat clear hK))
      refine ⟨k + 1, by omega, by omega, ?_⟩
      simp [-List.getD_eq_getElem?_getD, -List.length_take, Le, leFr, ASt.at, keepFr, updAll, upd_zero, upd_succ, e]
    | false =>
      rw [ht, if_neg (by decide)] at hib
      have e := wV_0 (x := x) ht
      repeat' first | ((with_reducible show aol _ _ _ _ _); first|(refine gF (by rfl) ?_ ?_; focus simp only [go_sem]; done)|(refine gU (by rfl) ?_ ?_; focus simp only [go_sem]; done))|((with_reducible refine hK _ ?_); clear hK K; try simp only [nx])|(with_reducible first|refine aS fun K hK => ?_|refine aB ?_|apply And.intro|exact True.intro)|((first|((with_reducible show aol _ _ _ _ _); try first|(refine gT (by rfl) ?_ ?_; focus simp only [go_sem]; done)|refine gB (by rfl) (by rfl) (fun h => ?_) (fun h => ?_) <;> (try simp only [hsX, reduceCtorEq] at h))|((with_reducible show Awp _ _ (Code.region _ _ _) _ _); first|refine rK (by repeat constructor) (fun K hK => ?_)|(refine dK (by kernel_rfl) (by repeat constructor) (fun K hK => ?_)))) <;> simp (maxSteps := 2000000) (disch := omega) only [go_sem, ↓reduceIte, Nat.reduceEqDiff, Nat.reduceAdd, Nat.reduceLT, Nat.reduceLeDiff, Nat.reduceSub, hib])|((with_reducible show Awp _ _ (Code.cond _ _ _) _ _); refine aC rfl (fun h => ?_) (fun h => ?_) <;> (try simp only [hsX, reduceCtorEq] at h))|((with_reducible first|refine aK ?_|refine aR ?_); simp only [nx])|((with_reducible refine aE ?_); simp only [nx, ne_eq, not_false_eq_true, Nat.reduceEqDiff, reduceCtorEq]; try ((repeat ((fail_if_success refine hK _ ?_); clear hK K)); refine hK _ ?_; clear hK K))|((with_reducible first|show List.all _ _ = true|show lendOk _ _ = true); rfl)|omega|((with_reducible first|show ¬ _|show _ → _); intro h; first|contradiction|cases h; done|skip)
      all_goals (try (first|refine fK ?_|refine fM ?_; repeat clear hK))
      refine ⟨k + 1, by omega, by omega, ?_⟩
      simp [-List.getD_eq_getElem?_getD, -List.length_take, Le, leFr, ASt.at, keepFr, updAll, upd_zero, upd_succ, e]
  · obtain rfl : k = x.length := by omega
    repeat' first | ((with_reducible show aol _ _ _ _ _); first|(refine gF (by rfl) ?_ ?_; focus simp only [go_sem]; done)|(refine gU (by rfl) ?_ ?_; focus simp only [go_sem]; done))|((with_reducible refine hK _ ?_); clear hK K; try simp only [nx])|(with_reducible first|refine aS fun K hK => ?_|refine aB ?_|apply And.intro|exact True.intro)|((first|((with_reducible show aol _ _ _ _ _); try first|(refine gT (by rfl) ?_ ?_; focus simp only [go_sem]; done)|refine gB (by rfl) (by rfl) (fun h => ?_) (fun h => ?_) <;> (try simp only [hsX, reduceCtorEq] at h))|((with_reducible show Awp _ _ (Code.region _ _ _) _ _); first|refine rK (by repeat constructor) (fun K hK => ?_)|(refine dK (by kernel_rfl) (by repeat constructor) (fun K hK => ?_)))) <;> simp (maxSteps := 2000000) (disch := omega) only [go_sem, ↓reduceIte, Nat.reduceEqDiff, Nat.reduceAdd, Nat.reduceLT, Nat.reduceLeDiff, Nat.reduceSub])|((with_reducible show Awp _ _ (Code.cond _ _ _) _ _); refine aC rfl (fun h => ?_) (fun h => ?_) <;> (try simp only [hsX, reduceCtorEq] at h))|((with_reducible first|refine aK ?_|refine aR ?_); simp only [nx])|((with_reducible refine aE ?_); simp only [nx, ne_eq, not_false_eq_true, Nat.reduceEqDiff, reduceCtorEq]; try ((repeat ((fail_if_success refine hK _ ?_); clear hK K)); refine hK _ ?_; clear hK K))|((with_reducible first|show List.all _ _ = true|show lendOk _ _ = true); rfl)|omega|((with_reducible first|show ¬ _|show _ → _); intro h; first|contradiction|cases h; done|skip)
    all_goals (try (first|refine fK ?_|refine fM ?_; repeat clear hK))
    refine fin_tmp rfl ?_; rfl
theorem finm_pairb {C : Cfg} {t u : Tmp} {b : Nat} {T T' : TypeId} {k : IntKind} {E : TypeId} {l : List Int} {n : Int} {x : Bool} {d : TD} {s : ASt} (hT : C.Γ T = some d) (ha : d.agg = true) (hs : d.size = 2) (h : nth s.fr t = .bp b 0)
    (hb : s.hp[b]? = some (.box T' [.i n, .own 0])) (hh : s.hp[0]? = some (.row k E l)) (hu : nth s.fr u = .b x) : FinSM 1 C [.cell t T, .tmp u] (.tu [.ag [.i n, .own 0], .b x]) [.row k E l] s := by
  exact ⟨s, Wk.refl s, (0 + 2 ≤ 2) ∧ True ∧ True, .tu [.ag [.i n, .own 0], .b x], by simp [resV, resVs, resV1, aLoad, hT, ha, hs, h, hb, hu], ⟨by omega, trivial, trivial⟩, [0], by simp, rfl, rfl, by simp [hh, AO.ren]⟩
theorem finm_pairb_nl {C : Cfg} {t u : Tmp} {b : Nat} {T T' : TypeId} {k : IntKind} {E : TypeId} {l : List Int} {n : Int} {x : Bool} {d : TD} {s : ASt} (hT : C.Γ T = some d) (ha : d.agg = true) (hs : d.size = 2) (h : nth s.fr t = .bp b 0)
    (hb : s.hp[b]? = some (.box T' [.i n, .nl])) (hh : s.hp[0]? = some (.row k E l)) (hu : nth s.fr u = .b x) : FinSM 1 C [.cell t T, .tmp u] (.tu [.ag [.i n, .nl], .b x]) [.row k E l] s := by
  exact ⟨s, Wk.refl s, (0 + 2 ≤ 2) ∧ True ∧ True, .tu [.ag [.i n, .nl], .b x], by simp [resV, resVs, resV1, aLoad, hT, ha, hs, h, hb, hu], ⟨by omega, trivial, trivial⟩, [0], by simp, rfl, rfl, by simp [hh, AO.ren]⟩
def tMade : MTab
  | [.i n, .own 0], [.row .i64 E l] => if fnV n l = true then some (True, .tu [.ag [.i n, .own 0], .b true], [.row .i64 E l]) else some (True, .tu [.ag [.i 0, .nl], .b false], [.row .i64 E l])
  | _, _ => none
theorem tMade_yes {n : Int} {l : List Int} {E : TypeId} (h : fnV n l = true) : tMade [.i n, .own 0] [.row .i64 E l] = some (True, .tu [.ag [.i n, .own 0], .b true], [.row .i64 E l]) := by
  exact if_pos h
theorem tMade_no {n : Int} {l : List Int} {E : TypeId} (h : fnV n l = false) : tMade [.i n, .own 0] [.row .i64 E l] = some (True, .tu [.ag [.i 0, .nl], .b false], [.row .i64 E l]) := by
  exact if_neg (by rw [h]; decide)
theorem made_ok : FitsM Tryz.prog 82 tMade := by
  refine ⟨?_⟩
  intro args L p out Ho h hp
  unfold tMade at h
  split at h
  · rename_i n E l
    split at h <;> cases h <;> rename_i hfn
    · refine mok_by (env_ok (env := [(80, tIsFn)]) (by simp only [fmA, and_true]; exact specIsFn_ok)) (callable_of Tryz.func82 (by kernel_rfl) rfl) Tryz.func82 rfl rfl rfl rfl rfl (by simp) ?_
      intro hlen c hc hX
      simp only [Tryz.ntmps82, Tryz.results82, lsA, List.replicate, Nat.reduceAdd, Nat.reduceSub]
      repeat' first | ((with_reducible show aol _ _ _ _ _); first|(refine gF (by rfl) ?_ ?_; focus simp only [go_sem]; done)|(refine gU (by rfl) ?_ ?_; focus simp only [go_sem]; done))|((with_reducible refine hK _ ?_); clear hK K; try simp only [nx])|(with_reducible first|refine aS fun K hK => ?_|refine aB ?_|apply And.intro|exact True.intro)|((first|((with_reducible show aol _ _ _ _ _); try first|(refine gT (by rfl) ?_ ?_; focus simp only [go_sem]; done)|refine gB (by rfl) (by rfl) (fun h => ?_) (fun h => ?_) <;> (try simp only [hsX, reduceCtorEq] at h))|((with_reducible show Awp _ _ (Code.region _ _ _) _ _); first|refine rK (by repeat constructor) (fun K hK => ?_)|(refine dK (by kernel_rfl) (by repeat constructor) (fun K hK => ?_)))) <;> simp (maxSteps := 2000000) (disch := omega) only [go_sem, ↓reduceIte, Nat.reduceEqDiff, Nat.reduceAdd, Nat.reduceLT, Nat.reduceLeDiff, Nat.reduceSub, tIsFn, hfn])|((with_reducible show Awp _ _ (Code.cond _ _ _) _ _); refine aC rfl (fun h => ?_) (fun h => ?_) <;> (try simp only [hsX, reduceCtorEq] at h))|((with_reducible first|refine aK ?_|refine aR ?_); simp only [nx])|((with_reducible refine aE ?_); simp only [nx, ne_eq, not_false_eq_true, Nat.reduceEqDiff, reduceCtorEq]; try ((repeat ((fail_if_success refine hK _ ?_); clear hK K)); refine hK _ ?_; clear hK K))|((with_reducible first|show List.all _ _ = true|show lendOk _ _ = true); rfl)|omega|((with_reducible first|show ¬ _|show _ → _); intro h; first|contradiction|cases h; done|skip)
      all_goals (try (first|refine fK ?_|refine fM ?_; repeat clear hK))
      exact finm_pairb (d := tPair) rfl rfl rfl rfl rfl rfl rfl
    · have hfn' : fnV n l = false := Bool.eq_false_iff.2 hfn
      refine mok_by (env_ok (env := [(80, tIsFn)]) (by simp only [fmA, and_true]; exact specIsFn_ok)) (callable_of Tryz.func82 (by kernel_rfl) rfl) Tryz.func82 rfl rfl rfl rfl rfl (by simp) ?_
      intro hlen c hc hX
      simp only [Tryz.ntmps82, Tryz.results82, lsA, List.replicate, Nat.reduceAdd, Nat.reduceSub]
      repeat' first | ((with_reducible show aol _ _ _ _ _); first|(refine gF (by rfl) ?_ ?_; focus simp only [go_sem]; done)|(refine gU (by rfl) ?_ ?_; focus simp only [go_sem]; done))|((with_reducible refine hK _ ?_); clear hK K; try simp only [nx])|(with_reducible first|refine aS fun K hK => ?_|refine aB ?_|apply And.intro|exact True.intro)|((first|((with_reducible show aol _ _ _ _ _); try first|(refine gT (by rfl) ?_ ?_; focus simp only [go_sem]; done)|refine gB (by rfl) (by rfl) (fun h => ?_) (fun h => ?_) <;> (try simp only [hsX, reduceCtorEq] at h))|((with_reducible show Awp _ _ (Code.region _ _ _) _ _); first|refine rK (by repeat constructor) (fun K hK => ?_)|(refine dK (by kernel_rfl) (by repeat constructor) (fun K hK => ?_)))) <;> simp (maxSteps := 2000000) (disch := omega) only [go_sem, ↓reduceIte, Nat.reduceEqDiff, Nat.reduceAdd, Nat.reduceLT, Nat.reduceLeDiff, Nat.reduceSub, tIsFn, hfn'])|((with_reducible show Awp _ _ (Code.cond _ _ _) _ _); refine aC rfl (fun h => ?_) (fun h => ?_) <;> (try simp only [hsX, reduceCtorEq] at h))|((with_reducible first|refine aK ?_|refine aR ?_); simp only [nx])|((with_reducible refine aE ?_); simp only [nx, ne_eq, not_false_eq_true, Nat.reduceEqDiff, reduceCtorEq]; try ((repeat ((fail_if_success refine hK _ ?_); clear hK K)); refine hK _ ?_; clear hK K))|((with_reducible first|show List.all _ _ = true|show lendOk _ _ = true); rfl)|omega|((with_reducible first|show ¬ _|show _ → _); intro h; first|contradiction|cases h; done|skip)
      all_goals (try (first|refine fK ?_|refine fM ?_; repeat clear hK))
      exact finm_pairb_nl (d := tPair) rfl rfl rfl rfl rfl rfl rfl
  · cases h
theorem nfull_all : ((List.range 7).all fun n => (List.range 64).all fun s => !decide (s < 2 ^ n) || decide (nandn (2 ^ n - 1) s = 2 ^ n - 1 - s)) = true := by kernel_rfl
theorem nfull {n s : Nat} (hn : n < 7) (hs : s < 2 ^ n) : nandn (2 ^ n - 1) s = 2 ^ n - 1 - s := by
  have h64 : 2 ^ n ≤ 64 := Nat.le_trans (Nat.pow_le_pow_right (by omega) (show n ≤ 6 by omega)) (by decide)
  have := List.all_eq_true.1 (List.all_eq_true.1 nfull_all n (List.mem_range.2 hn)) s (List.mem_range.2 (by omega))
  rw [decide_eq_true hs, Bool.not_true, Bool.false_or, decide_eq_true_eq] at this
  exact this
def dlF (n : Int) (l w : List Int) (s : Int) : Int := wV w s.toNat w.length + l.getD (cbF n - s.toNat) 0 - l.getD (cbF n) 0
def dlPre (n : Int) (l w : List Int) : Prop := fnV n l = true ∧ (w.length : Int) = n ∧ (w.all fun x => inR x (-1000) 1000) = true
theorem all_5000 {w : List Int} (h : (w.all fun x => inR x (-1000) 1000) = true) : (w.all fun x => inR x (-5000) 5000) = true := by
  rw [List.all_eq_true] at h ⊢
  intro x hx
  have := h x hx
  rw [inR_iff] at this ⊢
  omega
def tDlC : Tab
  | [.i s, .ref [.sl .i64 w], .ref [.i n, .sl .i64 l]] => some (dlPre n l w ∧ (0 ≤ s ∧ s < 2 ^ n.toNat), .i (dlF n l w s), [])
  | _ => none
theorem dlC_ok : Fits Tryz.prog 79 tDlC := by
  refine ⟨callable_of Tryz.func79 (by kernel_rfl) rfl, ?_⟩
  intro args p out Ho h hp
  unfold tDlC at h
  split at h <;> cases h
  rename_i s w n l
  refine ⟨acall_by (env_ok (env := [(62, tWt), (35, tAllOf)]) (by simp only [fmA, and_true]; exact ⟨implWt_ok, allOf_ok⟩)) Tryz.func79 rfl rfl rfl rfl rfl ?_, rfl, rfl⟩
  intro hlen c hc hX
  simp only [lensOk, AV.lenOk, true_and, and_true] at hlen
  simp only [Tryz.ntmps79, Tryz.results79, lsA, List.replicate, Nat.reduceAdd, Nat.reduceSub]
  obtain ⟨⟨hf, hw, hwa⟩, hs⟩ := hp
  have hs' := set_fn ⟨hf, hs⟩
  have hlen1 := fnV_len hf
  have hf' := fnV_iff.1 hf
  obtain ⟨s, rfl⟩ := Int.eq_ofNat_of_zero_le hs.1
  have hF := cbF_eq n
  have hcl := cbF_lt n
  have hpw := pow_nat n.toNat
  have hwa5 := all_5000 hwa
  have hnf := nfull (n := n.toNat) (s := s) (by omega) (by omega)
  have hx : iandn (cbF n : Int) (s : Int) = ((cbF n - s : Nat) : Int) := by
    rw [iandn_nat (by omega) (by omega)]
    have e : cbF n = 2 ^ n.toNat - 1 := rfl
    rw [e, hnf]
  have hb1 := wV_bd hwa5 s w.length
  have hb2 := getD_bd hf'.2.2 (cbF n - s)
  have hb3 := getD_bd hf'.2.2 (cbF n)
  repeat' first | ((with_reducible show aol _ _ _ _ _); first|(refine gF (by rfl) ?_ ?_; focus simp only [go_sem]; done)|(refine gU (by rfl) ?_ ?_; focus simp only [go_sem]; done))|((with_reducible refine hK _ ?_); clear hK K; try simp only [nx])|(with_reducible first|refine aS fun K hK => ?_|refine aB ?_|apply And.intro|exact True.intro)|((first|((with_reducible show aol _ _ _ _ _); try first|(refine gT (by rfl) ?_ ?_; focus simp only [go_sem]; done)|refine gB (by rfl) (by rfl) (fun h => ?_) (fun h => ?_) <;> (try simp only [hsX, reduceCtorEq] at h))|((with_reducible show Awp _ _ (Code.region _ _ _) _ _); first|refine rK (by repeat constructor) (fun K hK => ?_)|(refine dK (by kernel_rfl) (by repeat constructor) (fun K hK => ?_)))) <;> simp (maxSteps := 2000000) (disch := omega) only [go_sem, ↓reduceIte, Nat.reduceEqDiff, Nat.reduceAdd, Nat.reduceLT, Nat.reduceLeDiff, Nat.reduceSub, tWt, hwa5, tAllOf, hF, hx])|((with_reducible show Awp _ _ (Code.cond _ _ _) _ _); refine aC rfl (fun h => ?_) (fun h => ?_) <;> (try simp only [hsX, reduceCtorEq] at h))|((with_reducible first|refine aK ?_|refine aR ?_); simp only [nx])|((with_reducible refine aE ?_); simp only [nx, ne_eq, not_false_eq_true, Nat.reduceEqDiff, reduceCtorEq]; try ((repeat ((fail_if_success refine hK _ ?_); clear hK K)); refine hK _ ?_; clear hK K))|((with_reducible first|show List.all _ _ = true|show lendOk _ _ = true); rfl)|omega|((with_reducible first|show ¬ _|show _ → _); intro h; first|contradiction|cases h; done|skip)
  all_goals (try (first|refine fK ?_|refine fM ?_; repeat clear hK))
  refine fin_tmp rfl ?_; simp only [nth_zero, nth_succ, dlF, Int.toNat_natCast]
def tDlCF : Tab
  | [.i n, .fn 79 [.ref [.sl .i64 w], .ref [.i m, .sl .i64 l]]] => some ((0 ≤ n ∧ n ≤ 5) ∧ (n = m ∧ dlPre n l w), .tu [.ag [.i (or0 (fnV n (mkL (dlF n l w) (2 ^ n.toNat))) n), .own 0], .b (fnV n (mkL (dlF n l w) (2 ^ n.toNat)))], [.row .i64 3 (orE (fnV n (mkL (dlF n l w) (2 ^ n.toNat))) (mkL (dlF n l w) (2 ^ n.toNat)))])
  | _ => none
theorem DlCF_ok : Fits Tryz.prog 45 tDlCF := by
  refine ⟨callable_of Tryz.func45 (by kernel_rfl) rfl, ?_⟩
  intro args p out Ho h hp
  unfold tDlCF at h
  split at h <;> cases h
  rename_i n w m l
  refine ⟨acall_by (env_ok (env := [(79, tDlC), (54, tIsFn)]) (by simp only [fmA, and_true]; exact ⟨dlC_ok, implIsFn_ok⟩)) Tryz.func45 rfl rfl rfl rfl rfl ?_, rfl, rfl⟩
  intro hlen c hc hX
  simp only [lensOk, AV.lenOk, true_and, and_true] at hlen
  simp only [Tryz.ntmps45, Tryz.results45, lsA, List.replicate, Nat.reduceAdd, Nat.reduceSub]
  obtain ⟨hn, hpre⟩ := hp
  obtain ⟨rfl, hpre⟩ := hpre
  have hu := u64_id (n := n) (by omega) (by omega)
  have hsh := ishl_one (n := n) hn.1 (by omega)
  have hpw := pow_nat n.toNat
  have hp6 : 2 ^ n.toNat ≤ 64 := Nat.le_trans (Nat.pow_le_pow_right (by omega) (show n.toNat ≤ 6 by omega)) (by decide)
  repeat' first | ((with_reducible show aol _ _ _ _ _); first|(refine gF (by rfl) ?_ ?_; focus simp only [go_sem]; done)|(refine gU (by rfl) ?_ ?_; focus simp only [go_sem]; done))|((with_reducible refine hK _ ?_); clear hK K; try simp only [nx])|(with_reducible first|refine aS fun K hK => ?_|refine aB ?_|apply And.intro|exact True.intro)|((first|((with_reducible show aol _ _ _ _ _); try first|(refine gT (by rfl) ?_ ?_; focus simp only [go_sem]; done)|refine gB (by rfl) (by rfl) (fun h => ?_) (fun h => ?_) <;> (try simp only [hsX, reduceCtorEq] at h))|((with_reducible show Awp _ _ (Code.region _ _ _) _ _); first|refine rK (by repeat constructor) (fun K hK => ?_)|(refine dK (by kernel_rfl) (by repeat constructor) (fun K hK => ?_)))) <;> simp (maxSteps := 2000000) (disch := omega) only [go_sem, ↓reduceIte, Nat.reduceEqDiff, Nat.reduceAdd, Nat.reduceLT, Nat.reduceLeDiff, Nat.reduceSub, tDlC, hu, hsh])|((with_reducible show Awp _ _ (Code.cond _ _ _) _ _); refine aC rfl (fun h => ?_) (fun h => ?_) <;> (try simp only [hsX, reduceCtorEq] at h))|((with_reducible first|refine aK ?_|refine aR ?_); simp only [nx])|((with_reducible refine aE ?_); simp only [nx, ne_eq, not_false_eq_true, Nat.reduceEqDiff, reduceCtorEq]; try ((repeat ((fail_if_success refine hK _ ?_); clear hK K)); refine hK _ ?_; clear hK K))|((with_reducible first|show List.all _ _ = true|show lendOk _ _ = true); rfl)|omega|((with_reducible first|show ¬ _|show _ → _); intro h; first|contradiction|cases h; done|skip)
  all_goals (try (first|refine fK ?_|refine fM ?_; repeat clear hK))
  refine awp_wk (wk_cell .i64 3 (b := 1) (j := 1) rfl rfl (by simp)) ?_
  refine awp_forR 0 hX (fun st (k : Nat) => st.at [1, 4, 6, 12] [(13, .i k)] [.box 26 [.i 0, .nl], .box 26 [.i n, .own 2], .row .i64 3 (mkL (dlF n l w) k)]) (fun k => k ≤ 2 ^ n.toNat) (fun k => 2 ^ n.toNat - k) 0 (Nat.zero_le _) ?_ ?_
  · exact ⟨[0, 1, 2], rfl, rfl, by simp [-List.getD_eq_getElem?_getD, -List.length_take, gdA, leFr, ASt.at, keepFr, updAll, upd_zero, upd_succ, AV.rnb, AV.rnb0, mkL], by simp [-List.getD_eq_getElem?_getD, gdA, ASt.at, AO.rnb, AV.rnb0, upd_k0, upd_k1, upd_k2, upd_k3, mkL], rfl, rfl⟩
  rintro k hk
  simp only [ASt.at, keepFr, updAll, upd_zero, upd_succ, lgA, Nat.reduceEqDiff, Nat.reduceAdd, ↓reduceIte, eq_self]
  have hrl := mkL_len (dlF n l w) k
  have hcl : (k : Int) < 2 ^ n.toNat → (dlPre n l w ∧ (0 ≤ (k : Int) ∧ (k : Int) < 2 ^ n.toNat)) = True := fun hkn => eq_true (⟨hpre, by omega, hkn⟩)
  repeat' first | ((with_reducible show aol _ _ _ _ _); first|(refine gF (by rfl) ?_ ?_; focus simp only [go_sem]; done)|(refine gU (by rfl) ?_ ?_; focus simp only [go_sem]; done))|((with_reducible refine hK _ ?_); clear hK K; try simp only [nx])|(with_reducible first|refine aS fun K hK => ?_|refine aB ?_|apply And.intro|exact True.intro)|((first|((with_reducible show aol _ _ _ _ _); try first|(refine gT (by rfl) ?_ ?_; focus simp only [go_sem]; done)|refine gB (by rfl) (by rfl) (fun h => ?_) (fun h => ?_) <;> (try simp only [hsX, reduceCtorEq] at h))|((with_reducible show Awp _ _ (Code.region _ _ _) _ _); first|refine rK (by repeat constructor) (fun K hK => ?_)|(refine dK (by kernel_rfl) (by repeat constructor) (fun K hK => ?_)))) <;> simp (maxSteps := 2000000) (disch := omega) only [go_sem, ↓reduceIte, Nat.reduceEqDiff, Nat.reduceAdd, Nat.reduceLT, Nat.reduceLeDiff, Nat.reduceSub, tDlC, hpre, hcl, tIsFn])|((with_reducible show Awp _ _ (Code.cond _ _ _) _ _); refine aC rfl (fun h => ?_) (fun h => ?_) <;> (try simp only [hsX, reduceCtorEq] at h))|((with_reducible first|refine aK ?_|refine aR ?_); simp only [nx])|((with_reducible refine aE ?_); simp only [nx, ne_eq, not_false_eq_true, Nat.reduceEqDiff, reduceCtorEq]; try ((repeat ((fail_if_success refine hK _ ?_); clear hK K)); refine hK _ ?_; clear hK K))|((with_reducible first|show List.all _ _ = true|show lendOk _ _ = true); rfl)|omega|((with_reducible first|show ¬ _|show _ → _); intro h; first|contradiction|cases h; done|skip)
  all_goals (try (first|refine fK ?_|refine fM ?_; repeat clear hK))
  · refine ⟨k + 1, by omega, by omega, ?_⟩
    rw [mkL_succ]
    exact ⟨[0, 1, 4], rfl, rfl, by simp [-List.getD_eq_getElem?_getD, -List.length_take, gdA, leFr, ASt.at, keepFr, updAll, upd_zero, upd_succ, AV.rnb, AV.rnb0], by simp [-List.getD_eq_getElem?_getD, gdA, ASt.at, AO.rnb, AV.rnb0, upd_k0, upd_k1, upd_k2, upd_k3], rfl, rfl⟩
  · obtain rfl : k = 2 ^ n.toNat := by omega
    rw [h]; exact fin_pairb_nl (d := tPair) rfl rfl rfl rfl rfl rfl
  · obtain rfl : k = 2 ^ n.toNat := by omega
    rw [h]; exact fin_pairb (d := tPair) rfl rfl rfl rfl rfl rfl rfl
def dlL (n : Int) (l w : List Int) : List Int := mkL (dlF n l w) (2 ^ n.toNat)
def tDl : Tab
  | [.ag [.i n, .sl .i64 l], .sl .i64 w] => some (dlPre n l w, .tu [.ag [.i (or0 (fnV n (dlL n l w)) n), .own 0], .b (fnV n (dlL n l w))], [.row .i64 3 (orE (fnV n (dlL n l w)) (dlL n l w))])
  | _ => none
theorem implDl_ok : Fits Tryz.prog 40 tDl := by
  refine ⟨callable_of Tryz.func40 (by kernel_rfl) rfl, ?_⟩
  intro args p out Ho h hp
  unfold tDl at h
  split at h <;> cases h
  rename_i n l w
  refine ⟨acall_by (env_ok (env := [(54, tIsFn), (78, tAreW), (45, tDlCF)]) (by simp only [fmA, and_true]; exact ⟨implIsFn_ok, areW_ok, DlCF_ok⟩)) Tryz.func40 rfl rfl rfl rfl rfl ?_, rfl, rfl⟩
  intro hlen c hc hX
  simp only [lensOk, AV.lenOk, true_and, and_true] at hlen
  simp only [Tryz.ntmps40, Tryz.results40, lsA, List.replicate, Nat.reduceAdd, Nat.reduceSub]
  have hpre : dlPre n l w = True := eq_true hp
  obtain ⟨hf, hw, hwa⟩ := hp
  have hn := (fnV_iff.1 hf).1
  repeat' first | ((with_reducible show aol _ _ _ _ _); first|(refine gF (by rfl) ?_ ?_; focus simp only [go_sem]; done)|(refine gU (by rfl) ?_ ?_; focus simp only [go_sem]; done))|((with_reducible refine hK _ ?_); clear hK K; try simp only [nx])|(with_reducible first|refine aS fun K hK => ?_|refine aB ?_|apply And.intro|exact True.intro)|((first|((with_reducible show aol _ _ _ _ _); try first|(refine gT (by rfl) ?_ ?_; focus simp only [go_sem]; done)|refine gB (by rfl) (by rfl) (fun h => ?_) (fun h => ?_) <;> (try simp only [hsX, reduceCtorEq] at h))|((with_reducible show Awp _ _ (Code.region _ _ _) _ _); first|refine rK (by repeat constructor) (fun K hK => ?_)|(refine dK (by kernel_rfl) (by repeat constructor) (fun K hK => ?_)))) <;> simp (maxSteps := 2000000) (disch := omega) only [go_sem, ↓reduceIte, Nat.reduceEqDiff, Nat.reduceAdd, Nat.reduceLT, Nat.reduceLeDiff, Nat.reduceSub, tIsFn, hf, hw, tAreW, hwa, tDlCF, hpre])|((with_reducible show Awp _ _ (Code.cond _ _ _) _ _); refine aC rfl (fun h => ?_) (fun h => ?_) <;> (try simp only [hsX, reduceCtorEq] at h))|((with_reducible first|refine aK ?_|refine aR ?_); simp only [nx])|((with_reducible refine aE ?_); simp only [nx, ne_eq, not_false_eq_true, Nat.reduceEqDiff, reduceCtorEq]; try ((repeat ((fail_if_success refine hK _ ?_); clear hK K)); refine hK _ ?_; clear hK K))|((with_reducible first|show List.all _ _ = true|show lendOk _ _ = true); rfl)|omega|((with_reducible first|show ¬ _|show _ → _); intro h; first|contradiction|cases h; done|skip)
  all_goals (try (first|refine fK ?_|refine fM ?_; repeat clear hK))
  exact fin_pairb (d := tPair) rfl rfl rfl rfl rfl rfl rfl
theorem specDl_ok : Fits Tryz.prog 41 tDl := by
  refine ⟨callable_of Tryz.func41 (by kernel_rfl) rfl, ?_⟩
  intro args p out Ho h hp
  unfold tDl at h
  split at h <;> cases h
  rename_i n l w
  refine ⟨acall_by (env_ok2 (env := [(80, tIsFn), (55, tWithin), (81, tWt)]) (envM := [(82, tMade)]) (by simp only [fmA, and_true]; exact ⟨specIsFn_ok, specIn_ok, specWt_ok⟩) (by simp only [fmA, and_true]; exact made_ok)) Tryz.func41 rfl rfl rfl rfl rfl ?_, rfl, rfl⟩
  intro hlen c hc hX
  simp only [lensOk, AV.lenOk, true_and, and_true] at hlen
  simp only [Tryz.ntmps41, Tryz.results41, lsA, List.replicate, Nat.reduceAdd, Nat.reduceSub]
  obtain ⟨hf, hw, hwa⟩ := hp
  have hf' := fnV_iff.1 hf
  have hlen1 := fnV_len hf
  have hcl := cbF_lt n
  have hF : (l.length : Int) - 1 = (cbF n : Int) := by omega
  have hpw := pow_nat n.toNat
  have hp6 : 2 ^ n.toNat ≤ 32 := Nat.le_trans (Nat.pow_le_pow_right (by omega) (show n.toNat ≤ 5 by omega)) (by decide)
  have hwa5 := all_5000 hwa
  repeat' first | ((with_reducible show aol _ _ _ _ _); first|(refine gF (by rfl) ?_ ?_; focus simp only [go_sem]; done)|(refine gU (by rfl) ?_ ?_; focus simp only [go_sem]; done))|((with_reducible refine hK _ ?_); clear hK K; try simp only [nx])|(with_reducible first|refine aS fun K hK => ?_|refine aB ?_|apply And.intro|exact True.intro)|((first|((with_reducible show aol _ _ _ _ _); try first|(refine gT (by rfl) ?_ ?_; focus simp only [go_sem]; done)|refine gB (by rfl) (by rfl) (fun h => ?_) (fun h => ?_) <;> (try simp only [hsX, reduceCtorEq] at h))|((with_reducible show Awp _ _ (Code.region _ _ _) _ _); first|refine rK (by repeat constructor) (fun K hK => ?_)|(refine dK (by kernel_rfl) (by repeat constructor) (fun K hK => ?_)))) <;> simp (maxSteps := 2000000) (disch := omega) only [go_sem, ↓reduceIte, Nat.reduceEqDiff, Nat.reduceAdd, Nat.reduceLT, Nat.reduceLeDiff, Nat.reduceSub, tIsFn, hf, hw])|((with_reducible show Awp _ _ (Code.cond _ _ _) _ _); refine aC rfl (fun h => ?_) (fun h => ?_) <;> (try simp only [hsX, reduceCtorEq] at h))|((with_reducible first|refine aK ?_|refine aR ?_); simp only [nx])|((with_reducible refine aE ?_); simp only [nx, ne_eq, not_false_eq_true, Nat.reduceEqDiff, reduceCtorEq]; try ((repeat ((fail_if_success refine hK _ ?_); clear hK K)); refine hK _ ?_; clear hK K))|((with_reducible first|show List.all _ _ = true|show lendOk _ _ = true); rfl)|omega|((with_reducible first|show ¬ _|show _ → _); intro h; first|contradiction|cases h; done|skip)
  all_goals (try (first|refine fK ?_|refine fM ?_; repeat clear hK))
  refine awp_for (fun st (i : Nat) => st.at [1, 2, 4] [(6, .i i)] st.hp) (fun i => i ≤ w.length) (fun i => w.length - i) 0 (Nat.zero_le _) ?_ ?_
  · simp [-List.getD_eq_getElem?_getD, -List.length_take, Le, leFr, ASt.at, keepFr, updAll, upd_zero, upd_succ]
  rintro i hi
  simp only [ASt.at, keepFr, updAll, upd_zero, upd_succ, lgA, Nat.reduceEqDiff, Nat.reduceAdd, ↓reduceIte, eq_self]
  have hbi := getD_bd hwa i
  repeat' first | ((with_reducible show aol _ _ _ _ _); first|(refine gF (by rfl) ?_ ?_; focus simp only [go_sem]; done)|(refine gU (by rfl) ?_ ?_; focus simp only [go_sem]; done))|((with_reducible refine hK _ ?_); clear hK K; try simp only [nx])|(with_reducible first|refine aS fun K hK => ?_|refine aB ?_|apply And.intro|exact True.intro)|((first|((with_reducible show aol _ _ _ _ _); try first|(refine gT (by rfl) ?_ ?_; focus simp only [go_sem]; done)|refine gB (by rfl) (by rfl) (fun h => ?_) (fun h => ?_) <;> (try simp only [hsX, reduceCtorEq] at h))|((with_reducible show Awp _ _ (Code.region _ _ _) _ _); first|refine rK (by repeat constructor) (fun K hK => ?_)|(refine dK (by kernel_rfl) (by repeat constructor) (fun K hK => ?_)))) <;> simp (maxSteps := 2000000) (disch := omega) only [go_sem, ↓reduceIte, Nat.reduceEqDiff, Nat.reduceAdd, Nat.reduceLT, Nat.reduceLeDiff, Nat.reduceSub, tWithin, hF])|((with_reducible show Awp _ _ (Code.cond _ _ _) _ _); refine aC rfl (fun h => ?_) (fun h => ?_) <;> (try simp only [hsX, reduceCtorEq] at h))|((with_reducible first|refine aK ?_|refine aR ?_); simp only [nx])|((with_reducible refine aE ?_); simp only [nx, ne_eq, not_false_eq_true, Nat.reduceEqDiff, reduceCtorEq]; try ((repeat ((fail_if_success refine hK _ ?_); clear hK K)); refine hK _ ?_; clear hK K))|((with_reducible first|show List.all _ _ = true|show lendOk _ _ = true); rfl)|omega|((with_reducible first|show ¬ _|show _ → _); intro h; first|contradiction|cases h; done|skip)
  all_goals (try (first|refine fK ?_|refine fM ?_; repeat clear hK))
  · refine ⟨i + 1, by omega, by omega, ?_⟩
    simp [-List.getD_eq_getElem?_getD, -List.length_take, Le, leFr, ASt.at, keepFr, updAll, upd_zero, upd_succ]
  refine awp_forR 0 hX (fun st (s : Nat) => st.at [1, 2, 4, 8] [(7, .own 2), (9, .i s)] [.box 26 [.i n, .sl .i64 l], .box 26 [.i 0, .nl], .row .i64 3 (mkL (dlF n l w) s)]) (fun s => s ≤ l.length) (fun s => l.length - s) 0 (Nat.zero_le _) ?_ ?_
  · exact ⟨[0, 1, 2], rfl, rfl, by simp [-List.getD_eq_getElem?_getD, -List.length_take, gdA, leFr, ASt.at, keepFr, updAll, upd_zero, upd_succ, AV.rnb, AV.rnb0, mkL], by simp [-List.getD_eq_getElem?_getD, gdA, ASt.at, AO.rnb, AV.rnb0, upd_k0, upd_k1, upd_k2, upd_k3, mkL], rfl, rfl⟩
  rintro s hs
  simp only [ASt.at, keepFr, updAll, upd_zero, upd_succ, lgA, Nat.reduceEqDiff, Nat.reduceAdd, ↓reduceIte, eq_self]
  have hml := mkL_len (dlF n l w) s
  have hb1 := wV_bd hwa5 s w.length
  have hb2 := getD_bd hf'.2.2 (cbF n - s)
  have hb3 := getD_bd hf'.2.2 (cbF n)
  have hts : ((cbF n : Int) - (s : Int)).toNat = cbF n - s := by omega
  have hT : wV w s w.length + l.getD (cbF n - s) 0 - l.getD (cbF n) 0 = dlF n l w (s : Int) := by rw [dlF, Int.toNat_natCast]
  rcases Nat.lt_or_ge s l.length with hsl | hsl
  · repeat' first | ((with_reducible show aol _ _ _ _ _); first|(refine gF (by rfl) ?_ ?_; focus simp only [go_sem]; done)|(refine gU (by rfl) ?_ ?_; focus simp only [go_sem]; done))|((with_reducible refine hK _ ?_); clear hK K; try simp only [nx])|(with_reducible first|refine aS fun K hK => ?_|refine aB ?_|apply And.intro|exact True.intro)|((first|((with_reducible show aol _ _ _ _ _); try first|(refine gT (by rfl) ?_ ?_; focus simp only [go_sem]; done)|refine gB (by rfl) (by rfl) (fun h => ?_) (fun h => ?_) <;> (try simp only [hsX, reduceCtorEq] at h))|((with_reducible show Awp _ _ (Code.region _ _ _) _ _); first|refine rK (by repeat constructor) (fun K hK => ?_)|(refine dK (by kernel_rfl) (by repeat constructor) (fun K hK => ?_)))) <;> simp (maxSteps := 2000000) (disch := omega) only [go_sem, ↓reduceIte, Nat.reduceEqDiff, Nat.reduceAdd, Nat.reduceLT, Nat.reduceLeDiff, Nat.reduceSub, tWt, hwa5, hts, hT])|((with_reducible show Awp _ _ (Code.cond _ _ _) _ _); refine aC rfl (fun h => ?_) (fun h => ?_) <;> (try simp only [hsX, reduceCtorEq] at h))|((with_reducible first|refine aK ?_|refine aR ?_); simp only [nx])|((with_reducible refine aE ?_); simp only [nx, ne_eq, not_false_eq_true, Nat.reduceEqDiff, reduceCtorEq]; try ((repeat ((fail_if_success refine hK _ ?_); clear hK K)); refine hK _ ?_; clear hK K))|((with_reducible first|show List.all _ _ = true|show lendOk _ _ = true); rfl)|omega|((with_reducible first|show ¬ _|show _ → _); intro h; first|contradiction|cases h; done|skip)
    all_goals (try (first|refine fK ?_|refine fM ?_; repeat clear hK))
    refine ⟨s + 1, by omega, by omega, ?_⟩
    rw [mkL_succ]
    exact ⟨[0, 1, 4], rfl, rfl, by simp [-List.getD_eq_getElem?_getD, -List.length_take, gdA, leFr, ASt.at, keepFr, updAll, upd_zero, upd_succ, AV.rnb, AV.rnb0], by simp [-List.getD_eq_getElem?_getD, gdA, ASt.at, AO.rnb, AV.rnb0, upd_k0, upd_k1, upd_k2, upd_k3], rfl, rfl⟩
  · obtain rfl : s = l.length := by omega
    have hL : mkL (dlF n l w) l.length = dlL n l w := by rw [dlL, ← hlen1]
    rw [hL]
    cases hfn : fnV n (dlL n l w) with
    | true =>
      have hmd := fun E => tMade_yes (E := E) hfn
      repeat' first | ((with_reducible show aol _ _ _ _ _); first|(refine gF (by rfl) ?_ ?_; focus simp only [go_sem]; done)|(refine gU (by rfl) ?_ ?_; focus simp only [go_sem]; done))|((with_reducible refine hK _ ?_); clear hK K; try simp only [nx])|(with_reducible first|refine aS fun K hK => ?_|refine aB ?_|apply And.intro|exact True.intro)|((first|((with_reducible show aol _ _ _ _ _); try first|(refine gT (by rfl) ?_ ?_; focus simp only [go_sem]; done)|refine gB (by rfl) (by rfl) (fun h => ?_) (fun h => ?_) <;> (try simp only [hsX, reduceCtorEq] at h))|((with_reducible show Awp _ _ (Code.region _ _ _) _ _); first|refine rK (by repeat constructor) (fun K hK => ?_)|(refine dK (by kernel_rfl) (by repeat constructor) (fun K hK => ?_)))) <;> simp (maxSteps := 2000000) (disch := omega) only [go_sem, ↓reduceIte, Nat.reduceEqDiff, Nat.reduceAdd, Nat.reduceLT, Nat.reduceLeDiff, Nat.reduceSub, hmd])|((with_reducible show Awp _ _ (Code.cond _ _ _) _ _); refine aC rfl (fun h => ?_) (fun h => ?_) <;> (try simp only [hsX, reduceCtorEq] at h))|((with_reducible first|refine aK ?_|refine aR ?_); simp only [nx])|((with_reducible refine aE ?_); simp only [nx, ne_eq, not_false_eq_true, Nat.reduceEqDiff, reduceCtorEq]; try ((repeat ((fail_if_success refine hK _ ?_); clear hK K)); refine hK _ ?_; clear hK K))|((with_reducible first|show List.all _ _ = true|show lendOk _ _ = true); rfl)|omega|((with_reducible first|show ¬ _|show _ → _); intro h; first|contradiction|cases h; done|skip)
      all_goals (try (first|refine fK ?_|refine fM ?_; repeat clear hK))
      rw [hfn]; exact fin_pairb (d := tPair) rfl rfl rfl rfl rfl rfl rfl
    | false =>
      have hmd := fun E => tMade_no (E := E) hfn
      repeat' first | ((with_reducible show aol _ _ _ _ _); first|(refine gF (by rfl) ?_ ?_; focus simp only [go_sem]; done)|(refine gU (by rfl) ?_ ?_; focus simp only [go_sem]; done))|((with_reducible refine hK _ ?_); clear hK K; try simp only [nx])|(with_reducible first|refine aS fun K hK => ?_|refine aB ?_|apply And.intro|exact True.intro)|((first|((with_reducible show aol _ _ _ _ _); try first|(refine gT (by rfl) ?_ ?_; focus simp only [go_sem]; done)|refine gB (by rfl) (by rfl) (fun h => ?_) (fun h => ?_) <;> (try simp only [hsX, reduceCtorEq] at h))|((with_reducible show Awp _ _ (Code.region _ _ _) _ _); first|refine rK (by repeat constructor) (fun K hK => ?_)|(refine dK (by kernel_rfl) (by repeat constructor) (fun K hK => ?_)))) <;> simp (maxSteps := 2000000) (disch := omega) only [go_sem, ↓reduceIte, Nat.reduceEqDiff, Nat.reduceAdd, Nat.reduceLT, Nat.reduceLeDiff, Nat.reduceSub, hmd])|((with_reducible show Awp _ _ (Code.cond _ _ _) _ _); refine aC rfl (fun h => ?_) (fun h => ?_) <;> (try simp only [hsX, reduceCtorEq] at h))|((with_reducible first|refine aK ?_|refine aR ?_); simp only [nx])|((with_reducible refine aE ?_); simp only [nx, ne_eq, not_false_eq_true, Nat.reduceEqDiff, reduceCtorEq]; try ((repeat ((fail_if_success refine hK _ ?_); clear hK K)); refine hK _ ?_; clear hK K))|((with_reducible first|show List.all _ _ = true|show lendOk _ _ = true); rfl)|omega|((with_reducible first|show ¬ _|show _ → _); intro h; first|contradiction|cases h; done|skip)
      all_goals (try (first|refine fK ?_|refine fM ?_; repeat clear hK))
      rw [hfn]; exact fin_pairb_nl (d := tPair) rfl rfl rfl rfl rfl rfl
def onesZ (k m : Nat) : List Int := List.replicate k 1 ++ List.replicate (m - k) 0
theorem onesZ_len {k m : Nat} (h : k ≤ m) : (onesZ k m).length = m := by simp [onesZ]; omega
theorem onesZ_set {k m : Nat} (h : k < m) : (onesZ k m).set k 1 = onesZ (k + 1) m := by
  unfold onesZ
  rw [List.set_append, if_neg (by simp), List.length_replicate, Nat.sub_self, show m - k = (m - (k + 1)) + 1 by omega, List.replicate_succ (n := m - (k + 1)), List.set_cons_zero, List.replicate_succ' (n := k), List.append_assoc]; rfl
theorem onesZ_full (m : Nat) : onesZ m m = List.replicate m 1 := by simp [onesZ]
theorem ones_all (m : Nat) : ((List.replicate m (1 : Int)).all fun x => inR x (-1000) 1000) = true := by
  rw [List.all_eq_true]
  intro x hx
  rw [List.mem_replicate] at hx
  rw [hx.2, inR_iff]; omega
def drL (n : Int) (l : List Int) : List Int := dlL n l (List.replicate n.toNat 1)
def okDr (n : Int) (l : List Int) : Bool := matV n l && fnV n (drL n l)
def tDr : Tab
  | [.ag [.i n, .sl .i64 l]] => some (True, .tu [.ag [.i (or0 (okDr n l) n), .own 0], .b (okDr n l)], [.row .i64 3 (orE (okDr n l) (drL n l))])
  | _ => none
theorem dr_pre {n : Int} {l : List Int} (h : matV n l = true) : dlPre n l (List.replicate n.toNat 1) = True := eq_true ⟨mat_fn h, by have := (fnV_iff.1 (mat_fn h)).1; simp; omega, ones_all _⟩
theorem implDr_ok : Fits Tryz.prog 10 tDr := by
  refine ⟨callable_of Tryz.func10 (by kernel_rfl) rfl, ?_⟩
  intro args p out Ho h hp
  unfold tDr at h
  split at h <;> cases h
  rename_i n l
  refine ⟨acall_by (env_ok (env := [(9, tIsMat), (40, tDl)]) (by simp only [fmA, and_true]; exact ⟨implIsMat_ok, implDl_ok⟩)) Tryz.func10 rfl rfl rfl rfl rfl ?_, rfl, rfl⟩
  intro hlen c hc hX
  simp only [lensOk, AV.lenOk, true_and, and_true] at hlen
  simp only [Tryz.ntmps10, Tryz.results10, lsA, List.replicate, Nat.reduceAdd, Nat.reduceSub]
  cases hg : matV n l with
  | false =>
    have hok : okDr n l = false := by rw [okDr, hg, Bool.false_and]
    rw [hok]
    repeat' first | ((with_reducible show aol _ _ _ _ _); first|(refine gF (by rfl) ?_ ?_; focus simp only [go_sem]; done)|(refine gU (by rfl) ?_ ?_; focus simp only [go_sem]; done))|((with_reducible refine hK _ ?_); clear hK K; try simp only [nx])|(with_reducible first|refine aS fun K hK => ?_|refine aB ?_|apply And.intro|exact True.intro)|((first|((with_reducible show aol _ _ _ _ _); try first|(refine gT (by rfl) ?_ ?_; focus simp only [go_sem]; done)|refine gB (by rfl) (by rfl) (fun h => ?_) (fun h => ?_) <;> (try simp only [hsX, reduceCtorEq] at h))|((with_reducible show Awp _ _ (Code.region _ _ _) _ _); first|refine rK (by repeat constructor) (fun K hK => ?_)|(refine dK (by kernel_rfl) (by repeat constructor) (fun K hK => ?_)))) <;> simp (maxSteps := 2000000) (disch := omega) only [go_sem, ↓reduceIte, Nat.reduceEqDiff, Nat.reduceAdd, Nat.reduceLT, Nat.reduceLeDiff, Nat.reduceSub, tIsMat, hg])|((with_reducible show Awp _ _ (Code.cond _ _ _) _ _); refine aC rfl (fun h => ?_) (fun h => ?_) <;> (try simp only [hsX, reduceCtorEq] at h))|((with_reducible first|refine aK ?_|refine aR ?_); simp only [nx])|((with_reducible refine aE ?_); simp only [nx, ne_eq, not_false_eq_true, Nat.reduceEqDiff, reduceCtorEq]; try ((repeat ((fail_if_success refine hK _ ?_); clear hK K)); refine hK _ ?_; clear hK K))|((with_reducible first|show List.all _ _ = true|show lendOk _ _ = true); rfl)|omega|((with_reducible first|show ¬ _|show _ → _); intro h; first|contradiction|cases h; done|skip)
    all_goals (try (first|refine fK ?_|refine fM ?_; repeat clear hK))
    exact fin_pairb_nl (d := tPair) rfl rfl rfl rfl rfl rfl
  | true =>
    have hn := (fnV_iff.1 (mat_fn hg)).1
    have hok : okDr n l = fnV n (dlL n l (List.replicate n.toNat 1)) := by rw [okDr, hg, Bool.true_and, drL]
    rw [hok, drL]
    have hrl : (List.replicate n.toNat (0 : Int)).length = n.toNat := List.length_replicate ..
    repeat' first | ((with_reducible show aol _ _ _ _ _); first|(refine gF (by rfl) ?_ ?_; focus simp only [go_sem]; done)|(refine gU (by rfl) ?_ ?_; focus simp only [go_sem]; done))|((with_reducible refine hK _ ?_); clear hK K; try simp only [nx])|(with_reducible first|refine aS fun K hK => ?_|refine aB ?_|apply And.intro|exact True.intro)|((first|((with_reducible show aol _ _ _ _ _); try first|(refine gT (by rfl) ?_ ?_; focus simp only [go_sem]; done)|refine gB (by rfl) (by rfl) (fun h => ?_) (fun h => ?_) <;> (try simp only [hsX, reduceCtorEq] at h))|((with_reducible show Awp _ _ (Code.region _ _ _) _ _); first|refine rK (by repeat constructor) (fun K hK => ?_)|(refine dK (by kernel_rfl) (by repeat constructor) (fun K hK => ?_)))) <;> simp (maxSteps := 2000000) (disch := omega) only [go_sem, ↓reduceIte, Nat.reduceEqDiff, Nat.reduceAdd, Nat.reduceLT, Nat.reduceLeDiff, Nat.reduceSub, tIsMat, hg, hrl])|((with_reducible show Awp _ _ (Code.cond _ _ _) _ _); refine aC rfl (fun h => ?_) (fun h => ?_) <;> (try simp only [hsX, reduceCtorEq] at h))|((with_reducible first|refine aK ?_|refine aR ?_); simp only [nx])|((with_reducible refine aE ?_); simp only [nx, ne_eq, not_false_eq_true, Nat.reduceEqDiff, reduceCtorEq]; try ((repeat ((fail_if_success refine hK _ ?_); clear hK K)); refine hK _ ?_; clear hK K))|((with_reducible first|show List.all _ _ = true|show lendOk _ _ = true); rfl)|omega|((with_reducible first|show ¬ _|show _ → _); intro h; first|contradiction|cases h; done|skip)
    all_goals (try (first|refine fK ?_|refine fM ?_; repeat clear hK))
    refine awp_for (fun st (k : Nat) => st.at [1, 2, 4, 14] [(15, .i k)] [.box 26 [.i n, .sl .i64 l], .box 26 [.i 0, .nl], .row .i64 3 (onesZ k n.toNat)]) (fun k => k ≤ n.toNat) (fun k => n.toNat - k) 0 (Nat.zero_le _) ?_ ?_
    · simp [-List.getD_eq_getElem?_getD, -List.length_take, Le, leFr, ASt.at, keepFr, updAll, upd_zero, upd_succ, onesZ]
    rintro k hk
    simp only [ASt.at, keepFr, updAll, upd_zero, upd_succ, lgA, Nat.reduceEqDiff, Nat.reduceAdd, ↓reduceIte, eq_self]
    have hol := onesZ_len hk
    rcases Nat.lt_or_ge k n.toNat with hkl | hkl
    · have e := onesZ_set hkl
      repeat' first | ((with_reducible show aol _ _ _ _ _); first|(refine gF (by rfl) ?_ ?_; focus simp only [go_sem]; done)|(refine gU (by rfl) ?_ ?_; focus simp only [go_sem]; done))|((with_reducible refine hK _ ?_); clear hK K; try simp only [nx])|(with_reducible first|refine aS fun K hK => ?_|refine aB ?_|apply And.intro|exact True.intro)|((first|((with_reducible show aol _ _ _ _ _); try first|(refine gT (by rfl) ?_ ?_; focus simp only [go_sem]; done)|refine gB (by rfl) (by rfl) (fun h => ?_) (fun h => ?_) <;> (try simp only [hsX, reduceCtorEq] at h))|((with_reducible show Awp _ _ (Code.region _ _ _) _ _); first|refine rK (by repeat constructor) (fun K hK => ?_)|(refine dK (by kernel_rfl) (by repeat constructor) (fun K hK => ?_)))) <;> simp (maxSteps := 2000000) (disch := omega) only [go_sem, ↓reduceIte, Nat.reduceEqDiff, Nat.reduceAdd, Nat.reduceLT, Nat.reduceLeDiff, Nat.reduceSub, hol, e])|((with_reducible show Awp _ _ (Code.cond _ _ _) _ _); refine aC rfl (fun h => ?_) (fun h => ?_) <;> (try simp only [hsX, reduceCtorEq] at h))|((with_reducible first|refine aK ?_|refine aR ?_); simp only [nx])|((with_reducible refine aE ?_); simp only [nx, ne_eq, not_false_eq_true, Nat.reduceEqDiff, reduceCtorEq]; try ((repeat ((fail_if_success refine hK _ ?_); clear hK K)); refine hK _ ?_; clear hK K))|((with_reducible first|show List.all _ _ = true|show lendOk _ _ = true); rfl)|omega|((with_reducible first|show ¬ _|show _ → _); intro h; first|contradiction|cases h; done|skip)
      all_goals (try (first|refine fK ?_|refine fM ?_; repeat clear hK))
      refine ⟨k + 1, by omega, by omega, ?_⟩
      simp [-List.getD_eq_getElem?_getD, -List.length_take, Le, leFr, ASt.at, keepFr, updAll, upd_zero, upd_succ]
    · obtain rfl : k = n.toNat := by omega
      have hdp := dr_pre hg
      rw [onesZ_full] at hol ⊢
      repeat' first | ((with_reducible show aol _ _ _ _ _); first|(refine gF (by rfl) ?_ ?_; focus simp only [go_sem]; done)|(refine gU (by rfl) ?_ ?_; focus simp only [go_sem]; done))|((with_reducible refine hK _ ?_); clear hK K; try simp only [nx])|(with_reducible first|refine aS fun K hK => ?_|refine aB ?_|apply And.intro|exact True.intro)|((first|((with_reducible show aol _ _ _ _ _); try first|(refine gT (by rfl) ?_ ?_; focus simp only [go_sem]; done)|refine gB (by rfl) (by rfl) (fun h => ?_) (fun h => ?_) <;> (try simp only [hsX, reduceCtorEq] at h))|((with_reducible show Awp _ _ (Code.region _ _ _) _ _); first|refine rK (by repeat constructor) (fun K hK => ?_)|(refine dK (by kernel_rfl) (by repeat constructor) (fun K hK => ?_)))) <;> simp (maxSteps := 2000000) (disch := omega) only [go_sem, ↓reduceIte, Nat.reduceEqDiff, Nat.reduceAdd, Nat.reduceLT, Nat.reduceLeDiff, Nat.reduceSub, hol, tDl, hdp])|((with_reducible show Awp _ _ (Code.cond _ _ _) _ _); refine aC rfl (fun h => ?_) (fun h => ?_) <;> (try simp only [hsX, reduceCtorEq] at h))|((with_reducible first|refine aK ?_|refine aR ?_); simp only [nx])|((with_reducible refine aE ?_); simp only [nx, ne_eq, not_false_eq_true, Nat.reduceEqDiff, reduceCtorEq]; try ((repeat ((fail_if_success refine hK _ ?_); clear hK K)); refine hK _ ?_; clear hK K))|((with_reducible first|show List.all _ _ = true|show lendOk _ _ = true); rfl)|omega|((with_reducible first|show ¬ _|show _ → _); intro h; first|contradiction|cases h; done|skip)
      all_goals (try (first|refine fK ?_|refine fM ?_; repeat clear hK))
      exact fin_pairb (d := tPair) rfl rfl rfl rfl rfl rfl rfl
theorem specDr_ok : Fits Tryz.prog 11 tDr := by
  refine ⟨callable_of Tryz.func11 (by kernel_rfl) rfl, ?_⟩
  intro args p out Ho h hp
  unfold tDr at h
  split at h <;> cases h
  rename_i n l
  refine ⟨acall_by (env_ok (env := [(36, tIsMat), (41, tDl)]) (by simp only [fmA, and_true]; exact ⟨specIsMat_ok, specDl_ok⟩)) Tryz.func11 rfl rfl rfl rfl rfl ?_, rfl, rfl⟩
  intro hlen c hc hX
  simp only [lensOk, AV.lenOk, true_and, and_true] at hlen
  simp only [Tryz.ntmps11, Tryz.results11, lsA, List.replicate, Nat.reduceAdd, Nat.reduceSub]
  cases hg : matV n l with
  | false =>
    have hok : okDr n l = false := by rw [okDr, hg, Bool.false_and]
    rw [hok]
    repeat' first | ((with_reducible show aol _ _ _ _ _); first|(refine gF (by rfl) ?_ ?_; focus simp only [go_sem]; done)|(refine gU (by rfl) ?_ ?_; focus simp only [go_sem]; done))|((with_reducible refine hK _ ?_); clear hK K; try simp only [nx])|(with_reducible first|refine aS fun K hK => ?_|refine aB ?_|apply And.intro|exact True.intro)|((first|((with_reducible show aol _ _ _ _ _); try first|(refine gT (by rfl) ?_ ?_; focus simp only [go_sem]; done)|refine gB (by rfl) (by rfl) (fun h => ?_) (fun h => ?_) <;> (try simp only [hsX, reduceCtorEq] at h))|((with_reducible show Awp _ _ (Code.region _ _ _) _ _); first|refine rK (by repeat constructor) (fun K hK => ?_)|(refine dK (by kernel_rfl) (by repeat constructor) (fun K hK => ?_)))) <;> simp (maxSteps := 2000000) (disch := omega) only [go_sem, ↓reduceIte, Nat.reduceEqDiff, Nat.reduceAdd, Nat.reduceLT, Nat.reduceLeDiff, Nat.reduceSub, tIsMat, hg])|((with_reducible show Awp _ _ (Code.cond _ _ _) _ _); refine aC rfl (fun h => ?_) (fun h => ?_) <;> (try simp only [hsX, reduceCtorEq] at h))|((with_reducible first|refine aK ?_|refine aR ?_); simp only [nx])|((with_reducible refine aE ?_); simp only [nx, ne_eq, not_false_eq_true, Nat.reduceEqDiff, reduceCtorEq]; try ((repeat ((fail_if_success refine hK _ ?_); clear hK K)); refine hK _ ?_; clear hK K))|((with_reducible first|show List.all _ _ = true|show lendOk _ _ = true); rfl)|omega|((with_reducible first|show ¬ _|show _ → _); intro h; first|contradiction|cases h; done|skip)
    all_goals (try (first|refine fK ?_|refine fM ?_; repeat clear hK))
    exact fin_pairb_nl (d := tPair) rfl rfl rfl rfl rfl rfl
  | true =>
    have hn := (fnV_iff.1 (mat_fn hg)).1
    have hok : okDr n l = fnV n (dlL n l (List.replicate n.toNat 1)) := by rw [okDr, hg, Bool.true_and, drL]
    rw [hok, drL]
    repeat' first | ((with_reducible show aol _ _ _ _ _); first|(refine gF (by rfl) ?_ ?_; focus simp only [go_sem]; done)|(refine gU (by rfl) ?_ ?_; focus simp only [go_sem]; done))|((with_reducible refine hK _ ?_); clear hK K; try simp only [nx])|(with_reducible first|refine aS fun K hK => ?_|refine aB ?_|apply And.intro|exact True.intro)|((first|((with_reducible show aol _ _ _ _ _); try first|(refine gT (by rfl) ?_ ?_; focus simp only [go_sem]; done)|refine gB (by rfl) (by rfl) (fun h => ?_) (fun h => ?_) <;> (try simp only [hsX, reduceCtorEq] at h))|((with_reducible show Awp _ _ (Code.region _ _ _) _ _); first|refine rK (by repeat constructor) (fun K hK => ?_)|(refine dK (by kernel_rfl) (by repeat constructor) (fun K hK => ?_)))) <;> simp (maxSteps := 2000000) (disch := omega) only [go_sem, ↓reduceIte, Nat.reduceEqDiff, Nat.reduceAdd, Nat.reduceLT, Nat.reduceLeDiff, Nat.reduceSub, tIsMat, hg])|((with_reducible show Awp _ _ (Code.cond _ _ _) _ _); refine aC rfl (fun h => ?_) (fun h => ?_) <;> (try simp only [hsX, reduceCtorEq] at h))|((with_reducible first|refine aK ?_|refine aR ?_); simp only [nx])|((with_reducible refine aE ?_); simp only [nx, ne_eq, not_false_eq_true, Nat.reduceEqDiff, reduceCtorEq]; try ((repeat ((fail_if_success refine hK _ ?_); clear hK K)); refine hK _ ?_; clear hK K))|((with_reducible first|show List.all _ _ = true|show lendOk _ _ = true); rfl)|omega|((with_reducible first|show ¬ _|show _ → _); intro h; first|contradiction|cases h; done|skip)
    all_goals (try (first|refine fK ?_|refine fM ?_; repeat clear hK))
    refine awp_forR 0 hX (fun st (k : Nat) => st.at [1, 2] [(4, .own 2), (5, .i k)] [.box 26 [.i n, .sl .i64 l], .box 26 [.i 0, .nl], .row .i64 3 (List.replicate k 1)]) (fun k => k ≤ n.toNat) (fun k => n.toNat - k) 0 (Nat.zero_le _) ?_ ?_
    · exact ⟨[0, 1, 2], rfl, rfl, by simp [-List.getD_eq_getElem?_getD, -List.length_take, gdA, leFr, ASt.at, keepFr, updAll, upd_zero, upd_succ, AV.rnb, AV.rnb0], by simp [-List.getD_eq_getElem?_getD, gdA, ASt.at, AO.rnb, AV.rnb0, upd_k0, upd_k1, upd_k2, upd_k3], rfl, rfl⟩
    rintro k hk
    simp only [ASt.at, keepFr, updAll, upd_zero, upd_succ, lgA, Nat.reduceEqDiff, Nat.reduceAdd, ↓reduceIte, eq_self]
    have hol : (List.replicate k (1 : Int)).length = k := List.length_replicate ..
    rcases Nat.lt_or_ge k n.toNat with hkl | hkl
    · repeat' first | ((with_reducible show aol _ _ _ _ _); first|(refine gF (by rfl) ?_ ?_; focus simp only [go_sem]; done)|(refine gU (by rfl) ?_ ?_; focus simp only [go_sem]; done))|((with_reducible refine hK _ ?_); clear hK K; try simp only [nx])|(with_reducible first|refine aS fun K hK => ?_|refine aB ?_|apply And.intro|exact True.intro)|((first|((with_reducible show aol _ _ _ _ _); try first|(refine gT (by rfl) ?_ ?_; focus simp only [go_sem]; done)|refine gB (by rfl) (by rfl) (fun h => ?_) (fun h => ?_) <;> (try simp only [hsX, reduceCtorEq] at h))|((with_reducible show Awp _ _ (Code.region _ _ _) _ _); first|refine rK (by repeat constructor) (fun K hK => ?_)|(refine dK (by kernel_rfl) (by repeat constructor) (fun K hK => ?_)))) <;> simp (maxSteps := 2000000) (disch := omega) only [go_sem, ↓reduceIte, Nat.reduceEqDiff, Nat.reduceAdd, Nat.reduceLT, Nat.reduceLeDiff, Nat.reduceSub, hol])|((with_reducible show Awp _ _ (Code.cond _ _ _) _ _); refine aC rfl (fun h => ?_) (fun h => ?_) <;> (try simp only [hsX, reduceCtorEq] at h))|((with_reducible first|refine aK ?_|refine aR ?_); simp only [nx])|((with_reducible refine aE ?_); simp only [nx, ne_eq, not_false_eq_true, Nat.reduceEqDiff, reduceCtorEq]; try ((repeat ((fail_if_success refine hK _ ?_); clear hK K)); refine hK _ ?_; clear hK K))|((with_reducible first|show List.all _ _ = true|show lendOk _ _ = true); rfl)|omega|((with_reducible first|show ¬ _|show _ → _); intro h; first|contradiction|cases h; done|skip)
      all_goals (try (first|refine fK ?_|refine fM ?_; repeat clear hK))
      refine ⟨k + 1, by omega, by omega, ?_⟩
      rw [List.replicate_succ']
      exact ⟨[0, 1, 4], rfl, rfl, by simp [-List.getD_eq_getElem?_getD, -List.length_take, gdA, leFr, ASt.at, keepFr, updAll, upd_zero, upd_succ, AV.rnb, AV.rnb0], by simp [-List.getD_eq_getElem?_getD, gdA, ASt.at, AO.rnb, AV.rnb0, upd_k0, upd_k1, upd_k2, upd_k3], rfl, rfl⟩
    · obtain rfl : k = n.toNat := by omega
      have hdp := dr_pre hg
      repeat' first | ((with_reducible show aol _ _ _ _ _); first|(refine gF (by rfl) ?_ ?_; focus simp only [go_sem]; done)|(refine gU (by rfl) ?_ ?_; focus simp only [go_sem]; done))|((with_reducible refine hK _ ?_); clear hK K; try simp only [nx])|(with_reducible first|refine aS fun K hK => ?_|refine aB ?_|apply And.intro|exact True.intro)|((first|((with_reducible show aol _ _ _ _ _); try first|(refine gT (by rfl) ?_ ?_; focus simp only [go_sem]; done)|refine gB (by rfl) (by rfl) (fun h => ?_) (fun h => ?_) <;> (try simp only [hsX, reduceCtorEq] at h))|((with_reducible show Awp _ _ (Code.region _ _ _) _ _); first|refine rK (by repeat constructor) (fun K hK => ?_)|(refine dK (by kernel_rfl) (by repeat constructor) (fun K hK => ?_)))) <;> simp (maxSteps := 2000000) (disch := omega) only [go_sem, ↓reduceIte, Nat.reduceEqDiff, Nat.reduceAdd, Nat.reduceLT, Nat.reduceLeDiff, Nat.reduceSub, tDl, hdp])|((with_reducible show Awp _ _ (Code.cond _ _ _) _ _); refine aC rfl (fun h => ?_) (fun h => ?_) <;> (try simp only [hsX, reduceCtorEq] at h))|((with_reducible first|refine aK ?_|refine aR ?_); simp only [nx])|((with_reducible refine aE ?_); simp only [nx, ne_eq, not_false_eq_true, Nat.reduceEqDiff, reduceCtorEq]; try ((repeat ((fail_if_success refine hK _ ?_); clear hK K)); refine hK _ ?_; clear hK K))|((with_reducible first|show List.all _ _ = true|show lendOk _ _ = true); rfl)|omega|((with_reducible first|show ¬ _|show _ → _); intro h; first|contradiction|cases h; done|skip)
      all_goals (try (first|refine fK ?_|refine fM ?_; repeat clear hK))
      exact fin_pairb (d := tPair) rfl rfl rfl rfl rfl rfl rfl
end Go.Proofs.YthoionlldmfpiaaGreat
