import Derived.Test.YthoionlldmfpiaaGreatT75
import Derived.Test.YthoionlldmfpiaaGreatT22
import Derived.Test.YthoionlldmfpiaaGreatHs
import Derived.Test.YthoionlldmfpiaaGreatT36
set_option linter.unusedSimpArgs false
set_option linter.unusedVariables false
set_option maxHeartbeats 2000000
namespace Go.Proofs.YthoionlldmfpiaaGreat
open Go Go.Ab
attribute [local irreducible] aol
attribute [local irreducible] popN
def cnF (l l' : List Int) (s : Int) : Int := splT l l' s.toNat (splV l l' s.toNat s.toNat)
def cnB (n : Int) (l : List Int) (n' : Int) (l' : List Int) : Bool := fnV n l && (fnV n' l' && decide (n = n'))
def cnL (n : Int) (l l' : List Int) : List Int := mkL (cnF l l') (2 ^ n.toNat)
def cnO (n : Int) (l : List Int) (n' : Int) (l' : List Int) : Bool := cnB n l n' l' && fnV n (cnL n l l')
def tFit6 : Tab
  | [.ag [.i n, .sl .i64 l], .ag [.i n', .sl .i64 l']] => some (True, .b (cnB n l n' l'), [])
  | _ => none
theorem fit6_ok : Fits Tryz.prog 101 tFit6 := by
  refine ⟨callable_of Tryz.func101 (by kernel_rfl) rfl, ?_⟩
  intro args p out Ho h hp
  unfold tFit6 at h
  split at h <;> cases h
  rename_i n l n' l'
  refine ⟨acall_by (env_ok (env := [(80, tIsFn)]) (by simp only [fmA, and_true]; exact specIsFn_ok)) Tryz.func101 rfl rfl rfl rfl rfl ?_, rfl, rfl⟩
  intro hlen c hc hX
  simp only [lensOk, AV.lenOk, true_and, and_true] at hlen
  simp only [Tryz.ntmps101, Tryz.results101, lsA, List.replicate, Nat.reduceAdd, Nat.reduceSub]
  cases h1 : fnV n l with
  | false =>
    have e : cnB n l n' l' = false := by unfold cnB; rw [h1]; rfl
    repeat' first | ((with_reducible show aol _ _ _ _ _); first|(refine gF (by rfl) ?_ ?_; focus simp only [go_sem]; done)|(refine gU (by rfl) ?_ ?_; focus simp only [go_sem]; done))|((with_reducible refine hK _ ?_); clear hK K; try simp only [nx])|(with_reducible first|refine aS fun K hK => ?_|refine aB ?_|apply And.intro|exact True.intro)|((first|((with_reducible show aol _ _ _ _ _); try first|(refine gT (by rfl) ?_ ?_; focus simp only [go_sem]; done)|refine gB (by rfl) (by rfl) (fun h => ?_) (fun h => ?_) <;> (try simp only [hsX, reduceCtorEq] at h))|((with_reducible show Awp _ _ (Code.region _ _ _) _ _); first|refine rK (by repeat constructor) (fun K hK => ?_)|(refine dK (by kernel_rfl) (by repeat constructor) (fun K hK => ?_)))) <;> simp (maxSteps := 2000000) (disch := omega) only [go_sem, ↓reduceIte, Nat.reduceEqDiff, Nat.reduceAdd, Nat.reduceLT, Nat.reduceLeDiff, Nat.reduceSub, tIsFn, h1])|((with_reducible show Awp _ _ (Code.cond _ _ _) _ _); refine aC rfl (fun h => ?_) (fun h => ?_) <;> (try simp only [hsX, reduceCtorEq] at h))|((with_reducible first|refine aK ?_|refine aR ?_); simp only [nx])|((with_reducible refine aE ?_); simp only [nx, ne_eq, not_false_eq_true, Nat.reduceEqDiff, reduceCtorEq]; try ((repeat ((fail_if_success refine hK _ ?_); clear hK K)); refine hK _ ?_; clear hK K))|((with_reducible first|show List.all _ _ = true|show lendOk _ _ = true); rfl)|omega|((with_reducible first|show ¬ _|show _ → _); intro h; first|contradiction|cases h; done|skip)
    all_goals (try (first|refine fK ?_|refine fM ?_; repeat clear hK))
    all_goals (rw [e]; exact fin_tmp rfl rfl)
  | true =>
    cases h2 : fnV n' l' with
    | false =>
      have e : cnB n l n' l' = false := by unfold cnB; rw [h1, h2]; rfl
      repeat' first | ((with_reducible show aol _ _ _ _ _); first|(refine gF (by rfl) ?_ ?_; focus simp only [go_sem]; done)|(refine gU (by rfl) ?_ ?_; focus simp only [go_sem]; done))|((with_reducible refine hK _ ?_); clear hK K; try simp only [nx])|(with_reducible first|refine aS fun K hK => ?_|refine aB ?_|apply And.intro|exact True.intro)|((first|((with_reducible show aol _ _ _ _ _); try first|(refine gT (by rfl) ?_ ?_; focus simp only [go_sem]; done)|refine gB (by rfl) (by rfl) (fun h => ?_) (fun h => ?_) <;> (try simp only [hsX, reduceCtorEq] at h))|((with_reducible show Awp _ _ (Code.region _ _ _) _ _); first|refine rK (by repeat constructor) (fun K hK => ?_)|(refine dK (by kernel_rfl) (by repeat constructor) (fun K hK => ?_)))) <;> simp (maxSteps := 2000000) (disch := omega) only [go_sem, ↓reduceIte, Nat.reduceEqDiff, Nat.reduceAdd, Nat.reduceLT, Nat.reduceLeDiff, Nat.reduceSub, tIsFn, h1, h2])|((with_reducible show Awp _ _ (Code.cond _ _ _) _ _); refine aC rfl (fun h => ?_) (fun h => ?_) <;> (try simp only [hsX, reduceCtorEq] at h))|((with_reducible first|refine aK ?_|refine aR ?_); simp only [nx])|((with_reducible refine aE ?_); simp only [nx, ne_eq, not_false_eq_true, Nat.reduceEqDiff, reduceCtorEq]; try ((repeat ((fail_if_success refine hK _ ?_); clear hK K)); refine hK _ ?_; clear hK K))|((with_reducible first|show List.all _ _ = true|show lendOk _ _ = true); rfl)|omega|((with_reducible first|show ¬ _|show _ → _); intro h; first|contradiction|cases h; done|skip)
      all_goals (try (first|refine fK ?_|refine fM ?_; repeat clear hK))
      all_goals (rw [e]; exact fin_tmp rfl rfl)
    | true =>
      have e : cnB n l n' l' = decide (n = n') := by unfold cnB; rw [h1, h2]; rfl
      repeat' first | ((with_reducible show aol _ _ _ _ _); first|(refine gF (by rfl) ?_ ?_; focus simp only [go_sem]; done)|(refine gU (by rfl) ?_ ?_; focus simp only [go_sem]; done))|((with_reducible refine hK _ ?_); clear hK K; try simp only [nx])|(with_reducible first|refine aS fun K hK => ?_|refine aB ?_|apply And.intro|exact True.intro)|((first|((with_reducible show aol _ _ _ _ _); try first|(refine gT (by rfl) ?_ ?_; focus simp only [go_sem]; done)|refine gB (by rfl) (by rfl) (fun h => ?_) (fun h => ?_) <;> (try simp only [hsX, reduceCtorEq] at h))|((with_reducible show Awp _ _ (Code.region _ _ _) _ _); first|refine rK (by repeat constructor) (fun K hK => ?_)|(refine dK (by kernel_rfl) (by repeat constructor) (fun K hK => ?_)))) <;> simp (maxSteps := 2000000) (disch := omega) only [go_sem, ↓reduceIte, Nat.reduceEqDiff, Nat.reduceAdd, Nat.reduceLT, Nat.reduceLeDiff, Nat.reduceSub, tIsFn, h1, h2])|((with_reducible show Awp _ _ (Code.cond _ _ _) _ _); refine aC rfl (fun h => ?_) (fun h => ?_) <;> (try simp only [hsX, reduceCtorEq] at h))|((with_reducible first|refine aK ?_|refine aR ?_); simp only [nx])|((with_reducible refine aE ?_); simp only [nx, ne_eq, not_false_eq_true, Nat.reduceEqDiff, reduceCtorEq]; try ((repeat ((fail_if_success refine hK _ ?_); clear hK K)); refine hK _ ?_; clear hK K))|((with_reducible first|show List.all _ _ = true|show lendOk _ _ = true); rfl)|omega|((with_reducible first|show ¬ _|show _ → _); intro h; first|contradiction|cases h; done|skip)
      all_goals (try (first|refine fK ?_|refine fM ?_; repeat clear hK))
      all_goals (rw [e]; exact fin_tmp rfl rfl)
def tCnv : Tab
  | [.ag [.i n, .sl .i64 l], .ag [.i n', .sl .i64 l']] => some (True, .tu [.ag [.i (or0 (cnO n l n' l') n), .own 0], .b (cnO n l n' l')], [.row .i64 3 (orE (cnO n l n' l') (cnL n l l'))])
  | _ => none
theorem specCnv_ok : Fits Tryz.prog 73 tCnv := by
  refine ⟨callable_of Tryz.func73 (by kernel_rfl) rfl, ?_⟩
  intro args p out Ho h hp
  unfold tCnv at h
  split at h <;> cases h
  rename_i n l n' l'
  refine ⟨acall_by (env_ok2 (env := [(101, tFit6), (102, tSplit2)]) (envM := [(82, tMade)]) (by simp only [fmA, and_true]; exact ⟨fit6_ok, split2_ok⟩) (by simp only [fmA, and_true]; exact made_ok)) Tryz.func73 rfl rfl rfl rfl rfl ?_, rfl, rfl⟩
  intro hlen c hc hX
  simp only [lensOk, AV.lenOk, true_and, and_true] at hlen
  simp only [Tryz.ntmps73, Tryz.results73, lsA, List.replicate, Nat.reduceAdd, Nat.reduceSub]
  cases hb : cnB n l n' l' with
  | false =>
    have e : cnO n l n' l' = false := by unfold cnO; rw [hb]; rfl
    rw [e]
    repeat' first | ((with_reducible show aol _ _ _ _ _); first|(refine gF (by rfl) ?_ ?_; focus simp only [go_sem]; done)|(refine gU (by rfl) ?_ ?_; focus simp only [go_sem]; done))|((with_reducible refine hK _ ?_); clear hK K; try simp only [nx])|(with_reducible first|refine aS fun K hK => ?_|refine aB ?_|apply And.intro|exact True.intro)|((first|((with_reducible show aol _ _ _ _ _); try first|(refine gT (by rfl) ?_ ?_; focus simp only [go_sem]; done)|refine gB (by rfl) (by rfl) (fun h => ?_) (fun h => ?_) <;> (try simp only [hsX, reduceCtorEq] at h))|((with_reducible show Awp _ _ (Code.region _ _ _) _ _); first|refine rK (by repeat constructor) (fun K hK => ?_)|(refine dK (by kernel_rfl) (by repeat constructor) (fun K hK => ?_)))) <;> simp (maxSteps := 2000000) (disch := omega) only [go_sem, ↓reduceIte, Nat.reduceEqDiff, Nat.reduceAdd, Nat.reduceLT, Nat.reduceLeDiff, Nat.reduceSub, tFit6, hb])|((with_reducible show Awp _ _ (Code.cond _ _ _) _ _); refine aC rfl (fun h => ?_) (fun h => ?_) <;> (try simp only [hsX, reduceCtorEq] at h))|((with_reducible first|refine aK ?_|refine aR ?_); simp only [nx])|((with_reducible refine aE ?_); simp only [nx, ne_eq, not_false_eq_true, Nat.reduceEqDiff, reduceCtorEq]; try ((repeat ((fail_if_success refine hK _ ?_); clear hK K)); refine hK _ ?_; clear hK K))|((with_reducible first|show List.all _ _ = true|show lendOk _ _ = true); rfl)|omega|((with_reducible first|show ¬ _|show _ → _); intro h; first|contradiction|cases h; done|skip)
    all_goals (try (first|refine fK ?_|refine fM ?_; repeat clear hK))
    exact fin_pairb_nl (d := tPair) rfl rfl rfl rfl rfl rfl
  | true =>
    have hb' := hb
    unfold cnB at hb'
    rw [Bool.and_eq_true, Bool.and_eq_true, decide_eq_true_eq] at hb'
    obtain ⟨hf, hf', rfl⟩ := hb'
    have e : cnO n l n l' = fnV n (cnL n l l') := by unfold cnO; rw [hb]; rfl
    have hlen := fnV_len hf
    have hlen' := fnV_len hf'
    have hf1 := fnV_iff.1 hf
    have hf2 := fnV_iff.1 hf'
    have hp6 := pow_le6 (g := n) ⟨hf1.1.1, by omega⟩
    rw [e]
    repeat' first | ((with_reducible show aol _ _ _ _ _); first|(refine gF (by rfl) ?_ ?_; focus simp only [go_sem]; done)|(refine gU (by rfl) ?_ ?_; focus simp only [go_sem]; done))|((with_reducible refine hK _ ?_); clear hK K; try simp only [nx])|(with_reducible first|refine aS fun K hK => ?_|refine aB ?_|apply And.intro|exact True.intro)|((first|((with_reducible show aol _ _ _ _ _); try first|(refine gT (by rfl) ?_ ?_; focus simp only [go_sem]; done)|refine gB (by rfl) (by rfl) (fun h => ?_) (fun h => ?_) <;> (try simp only [hsX, reduceCtorEq] at h))|((with_reducible show Awp _ _ (Code.region _ _ _) _ _); first|refine rK (by repeat constructor) (fun K hK => ?_)|(refine dK (by kernel_rfl) (by repeat constructor) (fun K hK => ?_)))) <;> simp (maxSteps := 2000000) (disch := omega) only [go_sem, ↓reduceIte, Nat.reduceEqDiff, Nat.reduceAdd, Nat.reduceLT, Nat.reduceLeDiff, Nat.reduceSub, tFit6, hb])|((with_reducible show Awp _ _ (Code.cond _ _ _) _ _); refine aC rfl (fun h => ?_) (fun h => ?_) <;> (try simp only [hsX, reduceCtorEq] at h))|((with_reducible first|refine aK ?_|refine aR ?_); simp only [nx])|((with_reducible refine aE ?_); simp only [nx, ne_eq, not_false_eq_true, Nat.reduceEqDiff, reduceCtorEq]; try ((repeat ((fail_if_success refine hK _ ?_); clear hK K)); refine hK _ ?_; clear hK K))|((with_reducible first|show List.all _ _ = true|show lendOk _ _ = true); rfl)|omega|((with_reducible first|show ¬ _|show _ → _); intro h; first|contradiction|cases h; done|skip)
    all_goals (try (first|refine fK ?_|refine fM ?_; repeat clear hK))
    refine awp_forR 0 hX (fun st (s : Nat) => st.at [2, 3, 4] [(6, .own 3), (7, .i s)] [.box 26 [.i n, .sl .i64 l], .box 26 [.i n, .sl .i64 l'], .box 26 [.i 0, .nl], .row .i64 3 (mkL (cnF l l') s)]) (fun s => s ≤ l.length) (fun s => l.length - s) 0 (Nat.zero_le _) ?_ ?_
    · exact ⟨[0, 1, 2, 3], rfl, rfl, by simp [-List.getD_eq_getElem?_getD, -List.length_take, gdA, leFr, ASt.at, keepFr, updAll, upd_zero, upd_succ, AV.rnb, AV.rnb0, mkL], by simp [-List.getD_eq_getElem?_getD, gdA, ASt.at, AO.rnb, AV.rnb0, upd_k0, upd_k1, upd_k2, upd_k3, mkL], rfl, rfl⟩
    rintro s hs
    simp only [ASt.at, keepFr, updAll, upd_zero, upd_succ, lgA, Nat.reduceEqDiff, Nat.reduceAdd, ↓reduceIte, eq_self]
    have hcl := mkL_len (cnF l l') s
    by_cases hsl : s < l.length
    · have hpre : splPre n l n l' (s : Int) = True := eq_true ⟨hf, hf', rfl, by omega, by rw [pow_nat]; omega⟩
      have hv := splV_le l l' s s
      obtain ⟨x, hx⟩ : ∃ x, splV l l' s s = x := ⟨_, rfl⟩
      rw [hx] at hv
      have hb1 := getD_bd hf1.2.2 x
      have hb2 := getD_bd hf2.2.2 (s - x)
      have ht : ((s : Int) - (x : Int)).toNat = s - x := by omega
      have hT : l.getD x 0 + l'.getD (s - x) 0 = cnF l l' (s : Int) := by
        unfold cnF splT; rw [Int.toNat_natCast, hx, ht]
      repeat' first | ((with_reducible show aol _ _ _ _ _); first|(refine gF (by rfl) ?_ ?_; focus simp only [go_sem]; done)|(refine gU (by rfl) ?_ ?_; focus simp only [go_sem]; done))|((with_reducible refine hK _ ?_); clear hK K; try simp only [nx])|(with_reducible first|refine aS fun K hK => ?_|refine aB ?_|apply And.intro|exact True.intro)|((first|((with_reducible show aol _ _ _ _ _); try first|(refine gT (by rfl) ?_ ?_; focus simp only [go_sem]; done)|refine gB (by rfl) (by rfl) (fun h => ?_) (fun h => ?_) <;> (try simp only [hsX, reduceCtorEq] at h))|((with_reducible show Awp _ _ (Code.region _ _ _) _ _); first|refine rK (by repeat constructor) (fun K hK => ?_)|(refine dK (by kernel_rfl) (by repeat constructor) (fun K hK => ?_)))) <;> simp (maxSteps := 2000000) (disch := omega) only [go_sem, ↓reduceIte, Nat.reduceEqDiff, Nat.reduceAdd, Nat.reduceLT, Nat.reduceLeDiff, Nat.reduceSub, tSplit2, hpre, Int.toNat_natCast, hx, ht, hT])|((with_reducible show Awp _ _ (Code.cond _ _ _) _ _); refine aC rfl (fun h => ?_) (fun h => ?_) <;> (try simp only [hsX, reduceCtorEq] at h))|((with_reducible first|refine aK ?_|refine aR ?_); simp only [nx])|((with_reducible refine aE ?_); simp only [nx, ne_eq, not_false_eq_true, Nat.reduceEqDiff, reduceCtorEq]; try ((repeat ((fail_if_success refine hK _ ?_); clear hK K)); refine hK _ ?_; clear hK K))|((with_reducible first|show List.all _ _ = true|show lendOk _ _ = true); rfl)|omega|((with_reducible first|show ¬ _|show _ → _); intro h; first|contradiction|cases h; done|skip)
      all_goals (try (first|refine fK ?_|refine fM ?_; repeat clear hK))
      refine ⟨s + 1, by omega, by omega, ?_⟩
      rw [mkL_succ]
      exact ⟨[0, 1, 2, 5], rfl, rfl, by simp [-List.getD_eq_getElem?_getD, -List.length_take, gdA, leFr, ASt.at, keepFr, updAll, upd_zero, upd_succ, AV.rnb, AV.rnb0], by simp [-List.getD_eq_getElem?_getD, gdA, ASt.at, AO.rnb, AV.rnb0, upd_k0, upd_k1, upd_k2, upd_k3], rfl, rfl⟩
    · obtain rfl : s = l.length := by omega
      have eL : mkL (cnF l l') l.length = cnL n l l' := by rw [hlen]; rfl
      cases hfn : fnV n (cnL n l l') with
      | true =>
        have hmd := fun E => tMade_yes (E := E) hfn
        repeat' first | ((with_reducible show aol _ _ _ _ _); first|(refine gF (by rfl) ?_ ?_; focus simp only [go_sem]; done)|(refine gU (by rfl) ?_ ?_; focus simp only [go_sem]; done))|((with_reducible refine hK _ ?_); clear hK K; try simp only [nx])|(with_reducible first|refine aS fun K hK => ?_|refine aB ?_|apply And.intro|exact True.intro)|((first|((with_reducible show aol _ _ _ _ _); try first|(refine gT (by rfl) ?_ ?_; focus simp only [go_sem]; done)|refine gB (by rfl) (by rfl) (fun h => ?_) (fun h => ?_) <;> (try simp only [hsX, reduceCtorEq] at h))|((with_reducible show Awp _ _ (Code.region _ _ _) _ _); first|refine rK (by repeat constructor) (fun K hK => ?_)|(refine dK (by kernel_rfl) (by repeat constructor) (fun K hK => ?_)))) <;> simp (maxSteps := 2000000) (disch := omega) only [go_sem, ↓reduceIte, Nat.reduceEqDiff, Nat.reduceAdd, Nat.reduceLT, Nat.reduceLeDiff, Nat.reduceSub, eL, hmd])|((with_reducible show Awp _ _ (Code.cond _ _ _) _ _); refine aC rfl (fun h => ?_) (fun h => ?_) <;> (try simp only [hsX, reduceCtorEq] at h))|((with_reducible first|refine aK ?_|refine aR ?_); simp only [nx])|((with_reducible refine aE ?_); simp only [nx, ne_eq, not_false_eq_true, Nat.reduceEqDiff, reduceCtorEq]; try ((repeat ((fail_if_success refine hK _ ?_); clear hK K)); refine hK _ ?_; clear hK K))|((with_reducible first|show List.all _ _ = true|show lendOk _ _ = true); rfl)|omega|((with_reducible first|show ¬ _|show _ → _); intro h; first|contradiction|cases h; done|skip)
        all_goals (try (first|refine fK ?_|refine fM ?_; repeat clear hK))
        rw [hfn]; exact fin_pairb (d := tPair) rfl rfl rfl rfl rfl rfl rfl
      | false =>
        have hmd := fun E => tMade_no (E := E) hfn
        repeat' first | ((with_reducible show aol _ _ _ _ _); first|(refine gF (by rfl) ?_ ?_; focus simp only [go_sem]; done)|(refine gU (by rfl) ?_ ?_; focus simp only [go_sem]; done))|((with_reducible refine hK _ ?_); clear hK K; try simp only [nx])|(with_reducible first|refine aS fun K hK => ?_|refine aB ?_|apply And.intro|exact True.intro)|((first|((with_reducible show aol _ _ _ _ _); try first|(refine gT (by rfl) ?_ ?_; focus simp only [go_sem]; done)|refine gB (by rfl) (by rfl) (fun h => ?_) (fun h => ?_) <;> (try simp only [hsX, reduceCtorEq] at h))|((with_reducible show Awp _ _ (Code.region _ _ _) _ _); first|refine rK (by repeat constructor) (fun K hK => ?_)|(refine dK (by kernel_rfl) (by repeat constructor) (fun K hK => ?_)))) <;> simp (maxSteps := 2000000) (disch := omega) only [go_sem, ↓reduceIte, Nat.reduceEqDiff, Nat.reduceAdd, Nat.reduceLT, Nat.reduceLeDiff, Nat.reduceSub, eL, hmd])|((with_reducible show Awp _ _ (Code.cond _ _ _) _ _); refine aC rfl (fun h => ?_) (fun h => ?_) <;> (try simp only [hsX, reduceCtorEq] at h))|((with_reducible first|refine aK ?_|refine aR ?_); simp only [nx])|((with_reducible refine aE ?_); simp only [nx, ne_eq, not_false_eq_true, Nat.reduceEqDiff, reduceCtorEq]; try ((repeat ((fail_if_success refine hK _ ?_); clear hK K)); refine hK _ ?_; clear hK K))|((with_reducible first|show List.all _ _ = true|show lendOk _ _ = true); rfl)|omega|((with_reducible first|show ¬ _|show _ → _); intro h; first|contradiction|cases h; done|skip)
        all_goals (try (first|refine fK ?_|refine fM ?_; repeat clear hK))
        rw [hfn]; exact fin_pairb_nl (d := tPair) rfl rfl rfl rfl rfl rfl
def p5N (b : List Int) (s : Nat × Int) : Int := belowX b 5 s
def p5X (b : List Int) (s : Nat × Int) : Int := belowX b 6 (belowS b 5 s)
def p5T (b : List Int) (s : Nat × Int) : Nat × Int := belowS b 6 (belowS b 5 s)
def p5G (b : List Int) (s : Nat × Int) : Int := if p5X b s = 0 then l2AN b (p5T b s) else p5N b s
def p5L (b : List Int) (s : Nat × Int) : List Int := if p5X b s = 0 then l2AL b (p5T b s) else if p5X b s = 1 then topD (belowX b (p5N b s + 1) (p5T b s)) (2 ^ (p5N b s).toNat) else c2R b (p5N b s) (p5T b s)
def p5S (b : List Int) (s : Nat × Int) : Nat × Int := if p5X b s = 0 then l2AS b (p5T b s) else if p5X b s = 1 then belowS b (p5N b s + 1) (p5T b s) else (c2A b (p5N b s) (p5T b s)).2
theorem p5L_len (b : List Int) (s : Nat × Int) : (p5L b s).length ≤ 64 := by
  have hn : 0 ≤ p5N b s ∧ p5N b s < 5 := belowX_bd b (by omega) s
  have hp6 := pow_le6 (g := p5N b s) ⟨hn.1, by omega⟩
  unfold p5L; split
  · exact (l2AL_len b _).2
  · split
    · rw [topD_len]; exact hp6
    · unfold c2R; rw [c2V_len]; exact hp6
def tP5 : MTab
  | [.bp 0 0], [.box T [.sl .u8 b, .i i, .i h]] => some (0 ≤ i ∧ b.length ≤ 1048576, .ag [.i (p5G b (i.toNat, h)), .own 1],
      [.box T [.sl .u8 b, .i ((p5S b (i.toNat, h)).1 : Int), .i (p5S b (i.toNat, h)).2], .row .i64 3 (p5L b (i.toNat, h))])
  | _, _ => none
theorem p5_ok : FitsM Tryz.prog 70 tP5 := by
  refine ⟨?_⟩
  intro args L p out Ho h hp
  unfold tP5 at h
  split at h <;> cases h
  rename_i T b i h
  refine mok_by (env_ok2 (env := [(37, tSize2)]) (envM := [(69, tBel), (99, tL2A), (100, tC2)]) (by simp only [fmA, and_true]; exact size2_ok) (by simp only [fmA, and_true]; exact ⟨bel_ok, l2A_ok, c2_ok⟩)) (callable_of Tryz.func70 (by kernel_rfl) rfl) Tryz.func70 rfl rfl rfl rfl rfl (by simp) ?_
  intro hlen c hc hX
  simp only [lensIn, AV.lenIn, AV.lenOk, List.getElem?_cons_zero, List.getElem?_cons_succ, true_and, and_true] at hlen
  simp only [Tryz.ntmps70, Tryz.results70, lsA, List.replicate, Nat.reduceAdd, Nat.reduceSub]
  obtain ⟨hi, hb⟩ := hp
  obtain ⟨i, rfl⟩ := Int.eq_ofNat_of_zero_le hi
  rw [Int.toNat_natCast]
  generalize hs : ((i, h) : Nat × Int) = s0
  have e1 : i = s0.1 := by rw [← hs]
  have e2 : h = s0.2 := by rw [← hs]
  subst e1 e2
  have hn : 0 ≤ p5N b s0 ∧ p5N b s0 < 5 := belowX_bd b (by omega) s0
  have fN : belowX b 5 s0 = p5N b s0 := rfl
  have fX : belowX b 6 (belowS b 5 s0) = p5X b s0 := rfl
  have fT : belowS b 6 (belowS b 5 s0) = p5T b s0 := rfl
  obtain ⟨n, hnn⟩ : ∃ n, p5N b s0 = n := ⟨_, rfl⟩
  rw [hnn] at hn
  have hsh := ishl_one (n := n) hn.1 (by omega)
  have hpw := pow_nat n.toNat
  have hp6 := pow_le6 (g := n) ⟨hn.1, by omega⟩
  by_cases h0 : p5X b s0 = 0
  · have eG : p5G b s0 = l2AN b (p5T b s0) := if_pos h0
    have eL : p5L b s0 = l2AL b (p5T b s0) := if_pos h0
    have eS : p5S b s0 = l2AS b (p5T b s0) := if_pos h0
    have hal := l2AL_len b (p5T b s0)
    rw [eG, eL, eS]
    repeat' first | ((with_reducible show aol _ _ _ _ _); first|(refine gF (by rfl) ?_ ?_; focus simp only [go_sem]; done)|(refine gU (by rfl) ?_ ?_; focus simp only [go_sem]; done))|((with_reducible refine hK _ ?_); clear hK K; try simp only [nx])|(with_reducible first|refine aS fun K hK => ?_|refine aB ?_|apply And.intro|exact True.intro)|((first|((with_reducible show aol _ _ _ _ _); try first|(refine gT (by rfl) ?_ ?_; focus simp only [go_sem]; done)|refine gB (by rfl) (by rfl) (fun h => ?_) (fun h => ?_) <;> (try simp only [hsX, reduceCtorEq] at h))|((with_reducible show Awp _ _ (Code.region _ _ _) _ _); first|refine rK (by repeat constructor) (fun K hK => ?_)|(refine dK (by kernel_rfl) (by repeat constructor) (fun K hK => ?_)))) <;> simp (maxSteps := 2000000) (disch := omega) only [go_sem, ↓reduceIte, Nat.reduceEqDiff, Nat.reduceAdd, Nat.reduceLT, Nat.reduceLeDiff, Nat.reduceSub, tBel, tL2A, pr_eta, fN, fX, fT, h0])|((with_reducible show Awp _ _ (Code.cond _ _ _) _ _); refine aC rfl (fun h => ?_) (fun h => ?_) <;> (try simp only [hsX, reduceCtorEq] at h))|((with_reducible first|refine aK ?_|refine aR ?_); simp only [nx])|((with_reducible refine aE ?_); simp only [nx, ne_eq, not_false_eq_true, Nat.reduceEqDiff, reduceCtorEq]; try ((repeat ((fail_if_success refine hK _ ?_); clear hK K)); refine hK _ ?_; clear hK K))|((with_reducible first|show List.all _ _ = true|show lendOk _ _ = true); rfl)|omega|((with_reducible first|show ¬ _|show _ → _); intro h; first|contradiction|cases h; done|skip)
    all_goals (try (first|refine fK ?_|refine fM ?_; repeat clear hK))
    exact finm_pairS (d := tPair) (j := 2) (b := 1) [0, 2] rfl rfl rfl rfl rfl rfl rfl rfl rfl
  · have eG : p5G b s0 = n := by rw [← hnn]; exact if_neg h0
    by_cases h1 : p5X b s0 = 1
    · obtain ⟨top, htop⟩ : ∃ top, belowX b (n + 1) (p5T b s0) = top := ⟨_, rfl⟩
      have eL : p5L b s0 = topD top (2 ^ n.toNat) := by unfold p5L; rw [if_neg h0, if_pos h1, hnn, htop]
      have eS : p5S b s0 = belowS b (n + 1) (p5T b s0) := by unfold p5S; rw [if_neg h0, if_pos h1, hnn]
      rw [eG, eL, eS]
      repeat' first | ((with_reducible show aol _ _ _ _ _); first|(refine gF (by rfl) ?_ ?_; focus simp only [go_sem]; done)|(refine gU (by rfl) ?_ ?_; focus simp only [go_sem]; done))|((with_reducible refine hK _ ?_); clear hK K; try simp only [nx])|(with_reducible first|refine aS fun K hK => ?_|refine aB ?_|apply And.intro|exact True.intro)|((first|((with_reducible show aol _ _ _ _ _); try first|(refine gT (by rfl) ?_ ?_; focus simp only [go_sem]; done)|refine gB (by rfl) (by rfl) (fun h => ?_) (fun h => ?_) <;> (try simp only [hsX, reduceCtorEq] at h))|((with_reducible show Awp _ _ (Code.region _ _ _) _ _); first|refine rK (by repeat constructor) (fun K hK => ?_)|(refine dK (by kernel_rfl) (by repeat constructor) (fun K hK => ?_)))) <;> simp (maxSteps := 2000000) (disch := omega) only [go_sem, ↓reduceIte, Nat.reduceEqDiff, Nat.reduceAdd, Nat.reduceLT, Nat.reduceLeDiff, Nat.reduceSub, tBel, pr_eta, fN, fX, fT, hnn, h1, htop])|((with_reducible show Awp _ _ (Code.cond _ _ _) _ _); refine aC rfl (fun h => ?_) (fun h => ?_) <;> (try simp only [hsX, reduceCtorEq] at h))|((with_reducible first|refine aK ?_|refine aR ?_); simp only [nx])|((with_reducible refine aE ?_); simp only [nx, ne_eq, not_false_eq_true, Nat.reduceEqDiff, reduceCtorEq]; try ((repeat ((fail_if_success refine hK _ ?_); clear hK K)); refine hK _ ?_; clear hK K))|((with_reducible first|show List.all _ _ = true|show lendOk _ _ = true); rfl)|omega|((with_reducible first|show ¬ _|show _ → _); intro h; first|contradiction|cases h; done|skip)
      all_goals (try (first|refine fK ?_|refine fM ?_; repeat clear hK))
      refine awp_forR 1 hX (fun st (k : Nat) => st.at [2, 3, 4] [(5, .own 2), (6, .i k)] [.box T [.sl .u8 b, .i ((belowS b (n + 1) (p5T b s0)).1 : Int), .i (belowS b (n + 1) (p5T b s0)).2], .box 26 [.i 0, .nl], .row .i64 3 (topD top k)]) (fun k => k ≤ 2 ^ n.toNat) (fun k => 2 ^ n.toNat - k) 0 (Nat.zero_le _) ?_ ?_
      · exact ⟨[0, 1, 2], rfl, rfl, by simp [-List.getD_eq_getElem?_getD, -List.length_take, gdA, leFr, ASt.at, keepFr, updAll, upd_zero, upd_succ, AV.rnb, AV.rnb0, topD], by simp [-List.getD_eq_getElem?_getD, gdA, ASt.at, AO.rnb, AV.rnb0, upd_k0, upd_k1, upd_k2, upd_k3, topD], rfl, rfl⟩
      rintro k hk
      simp only [ASt.at, keepFr, updAll, upd_zero, upd_succ, lgA, Nat.reduceEqDiff, Nat.reduceAdd, ↓reduceIte, eq_self]
      have htl := topD_len top k
      have tn : ((k : Int)).toNat = k := Int.toNat_natCast k
      by_cases hkl : k < 2 ^ n.toNat
      · repeat' first | ((with_reducible show aol _ _ _ _ _); first|(refine gF (by rfl) ?_ ?_; focus simp only [go_sem]; done)|(refine gU (by rfl) ?_ ?_; focus simp only [go_sem]; done))|((with_reducible refine hK _ ?_); clear hK K; try simp only [nx])|(with_reducible first|refine aS fun K hK => ?_|refine aB ?_|apply And.intro|exact True.intro)|((first|((with_reducible show aol _ _ _ _ _); try first|(refine gT (by rfl) ?_ ?_; focus simp only [go_sem]; done)|refine gB (by rfl) (by rfl) (fun h => ?_) (fun h => ?_) <;> (try simp only [hsX, reduceCtorEq] at h))|((with_reducible show Awp _ _ (Code.region _ _ _) _ _); first|refine rK (by repeat constructor) (fun K hK => ?_)|(refine dK (by kernel_rfl) (by repeat constructor) (fun K hK => ?_)))) <;> simp (maxSteps := 2000000) (disch := omega) only [go_sem, ↓reduceIte, Nat.reduceEqDiff, Nat.reduceAdd, Nat.reduceLT, Nat.reduceLeDiff, Nat.reduceSub, tSize2, pr_eta, hsh, hpw, tn])|((with_reducible show Awp _ _ (Code.cond _ _ _) _ _); refine aC rfl (fun h => ?_) (fun h => ?_) <;> (try simp only [hsX, reduceCtorEq] at h))|((with_reducible first|refine aK ?_|refine aR ?_); simp only [nx])|((with_reducible refine aE ?_); simp only [nx, ne_eq, not_false_eq_true, Nat.reduceEqDiff, reduceCtorEq]; try ((repeat ((fail_if_success refine hK _ ?_); clear hK K)); refine hK _ ?_; clear hK K))|((with_reducible first|show List.all _ _ = true|show lendOk _ _ = true); rfl)|omega|((with_reducible first|show ¬ _|show _ → _); intro h; first|contradiction|cases h; done|skip)
        all_goals (try (first|refine fK ?_|refine fM ?_; repeat clear hK))
        refine ⟨k + 1, by omega, by omega, ?_⟩
        exact ⟨[0, 1, 4], rfl, rfl, by simp [-List.getD_eq_getElem?_getD, -List.length_take, gdA, leFr, ASt.at, keepFr, updAll, upd_zero, upd_succ, AV.rnb, AV.rnb0, topD], by simp [-List.getD_eq_getElem?_getD, gdA, ASt.at, AO.rnb, AV.rnb0, upd_k0, upd_k1, upd_k2, upd_k3, topD], rfl, rfl⟩
      · obtain rfl : k = 2 ^ n.toNat := by omega
        repeat' first | ((with_reducible show aol _ _ _ _ _); first|(refine gF (by rfl) ?_ ?_; focus simp only [go_sem]; done)|(refine gU (by rfl) ?_ ?_; focus simp only [go_sem]; done))|((with_reducible refine hK _ ?_); clear hK K; try simp only [nx])|(with_reducible first|refine aS fun K hK => ?_|refine aB ?_|apply And.intro|exact True.intro)|((first|((with_reducible show aol _ _ _ _ _); try first|(refine gT (by rfl) ?_ ?_; focus simp only [go_sem]; done)|refine gB (by rfl) (by rfl) (fun h => ?_) (fun h => ?_) <;> (try simp only [hsX, reduceCtorEq] at h))|((with_reducible show Awp _ _ (Code.region _ _ _) _ _); first|refine rK (by repeat constructor) (fun K hK => ?_)|(refine dK (by kernel_rfl) (by repeat constructor) (fun K hK => ?_)))) <;> simp (maxSteps := 2000000) (disch := omega) only [go_sem, ↓reduceIte, Nat.reduceEqDiff, Nat.reduceAdd, Nat.reduceLT, Nat.reduceLeDiff, Nat.reduceSub, hsh, hpw])|((with_reducible show Awp _ _ (Code.cond _ _ _) _ _); refine aC rfl (fun h => ?_) (fun h => ?_) <;> (try simp only [hsX, reduceCtorEq] at h))|((with_reducible first|refine aK ?_|refine aR ?_); simp only [nx])|((with_reducible refine aE ?_); simp only [nx, ne_eq, not_false_eq_true, Nat.reduceEqDiff, reduceCtorEq]; try ((repeat ((fail_if_success refine hK _ ?_); clear hK K)); refine hK _ ?_; clear hK K))|((with_reducible first|show List.all _ _ = true|show lendOk _ _ = true); rfl)|omega|((with_reducible first|show ¬ _|show _ → _); intro h; first|contradiction|cases h; done|skip)
        all_goals (try (first|refine fK ?_|refine fM ?_; repeat clear hK))
        exact finm_pairS (d := tPair) (j := 2) (b := 1) [0, 2] rfl rfl rfl rfl rfl rfl rfl rfl rfl
    · have eL : p5L b s0 = c2R b n (p5T b s0) := by unfold p5L; rw [if_neg h0, if_neg h1, hnn]
      have eS : p5S b s0 = (c2A b n (p5T b s0)).2 := by unfold p5S; rw [if_neg h0, if_neg h1, hnn]
      have hcl : (c2R b n (p5T b s0)).length = 2 ^ n.toNat := c2V_len ..
      rw [eG, eL, eS]
      repeat' first | ((with_reducible show aol _ _ _ _ _); first|(refine gF (by rfl) ?_ ?_; focus simp only [go_sem]; done)|(refine gU (by rfl) ?_ ?_; focus simp only [go_sem]; done))|((with_reducible refine hK _ ?_); clear hK K; try simp only [nx])|(with_reducible first|refine aS fun K hK => ?_|refine aB ?_|apply And.intro|exact True.intro)|((first|((with_reducible show aol _ _ _ _ _); try first|(refine gT (by rfl) ?_ ?_; focus simp only [go_sem]; done)|refine gB (by rfl) (by rfl) (fun h => ?_) (fun h => ?_) <;> (try simp only [hsX, reduceCtorEq] at h))|((with_reducible show Awp _ _ (Code.region _ _ _) _ _); first|refine rK (by repeat constructor) (fun K hK => ?_)|(refine dK (by kernel_rfl) (by repeat constructor) (fun K hK => ?_)))) <;> simp (maxSteps := 2000000) (disch := omega) only [go_sem, ↓reduceIte, Nat.reduceEqDiff, Nat.reduceAdd, Nat.reduceLT, Nat.reduceLeDiff, Nat.reduceSub, tBel, tC2, pr_eta, fN, fX, fT, hnn])|((with_reducible show Awp _ _ (Code.cond _ _ _) _ _); refine aC rfl (fun h => ?_) (fun h => ?_) <;> (try simp only [hsX, reduceCtorEq] at h))|((with_reducible first|refine aK ?_|refine aR ?_); simp only [nx])|((with_reducible refine aE ?_); simp only [nx, ne_eq, not_false_eq_true, Nat.reduceEqDiff, reduceCtorEq]; try ((repeat ((fail_if_success refine hK _ ?_); clear hK K)); refine hK _ ?_; clear hK K))|((with_reducible first|show List.all _ _ = true|show lendOk _ _ = true); rfl)|omega|((with_reducible first|show ¬ _|show _ → _); intro h; first|contradiction|cases h; done|skip)
      all_goals (try (first|refine fK ?_|refine fM ?_; repeat clear hK))
      exact finm_pairS (d := tPair) (j := 2) (b := 1) [0, 2] rfl rfl rfl rfl rfl rfl rfl rfl rfl
def ucD (b : List Int) (n : Int) : Nat → List (Int × Int) → Nat × Int → List (Int × Int) × (Nat × Int)
  | 0, L, s => (L, s)
  | k + 1, L, s => ucD b n k (L ++ [(belowX b (2 ^ n.toNat) s, 1)]) (belowS b (2 ^ n.toNat) s)
def popL : Nat → List Int
  | 0 => []
  | k + 1 => popL k ++ [(popN k : Int)]
theorem popL_len : ∀ k, (popL k).length = k
  | 0 => rfl
  | k + 1 => by show (popL k ++ [_]).length = _; rw [List.length_append, popL_len k]; rfl
def rkN (b : List Int) (s : Nat × Int) : Int := belowX b 5 s
def rkX (b : List Int) (s : Nat × Int) : Int := belowX b 6 (belowS b 5 s)
def rkT (b : List Int) (s : Nat × Int) : Nat × Int := belowS b 6 (belowS b 5 s)
def rkM (b : List Int) (t : Nat × Int) : List Int := [belowX b 3 t, belowX b 3 (belowS b 3 t)]
def rkG (b : List Int) (n : Int) (t : Nat × Int) : List Int × (Nat × Int) := rndD b 2 0 (belowS b 3 (belowS b 3 t)) n.toNat
def rkE (b : List Int) (n : Int) (t : Nat × Int) : List (Int × Int) × (Nat × Int) := ucD b n (belowX b 4 t).toNat [] (belowS b 4 t)
def rkO (b : List Int) (n : Int) (t : Nat × Int) : Bool := cvOk n ((rkE b n t).1.map blkC)
def rkF (b : List Int) (n : Int) (t : Nat × Int) : List Int := orE (rkO b n t) (mkL (cvV ((rkE b n t).1.map blkC)) (2 ^ n.toNat))
def rkH (b : List Int) (n : Int) (t : Nat × Int) : Int := or0 (rkO b n t) n
def rkC (b : List Int) (n : Int) (t : Nat × Int) : Bool := cnO (rkH b n t) (rkF b n t) n (popL (rkF b n t).length)
def r17N (b : List Int) (s : Nat × Int) : Int :=
  if rkX b s = 0 then p5G b (rkT b s)
  else if rkX b s = 1 ∨ rkX b s = 2 then or0 (pnOk (rkG b (rkN b s) (rkT b s)).1 (rkM b (rkT b s))) ((rkG b (rkN b s) (rkT b s)).1.length : Int)
  else or0 (rkC b (rkN b s) (rkT b s)) (rkH b (rkN b s) (rkT b s))
def r17L (b : List Int) (s : Nat × Int) : List Int :=
  if rkX b s = 0 then p5L b (rkT b s)
  else if rkX b s = 1 ∨ rkX b s = 2 then orE (pnOk (rkG b (rkN b s) (rkT b s)).1 (rkM b (rkT b s))) (pnL (rkG b (rkN b s) (rkT b s)).1 (rkM b (rkT b s)))
  else orE (rkC b (rkN b s) (rkT b s)) (cnL (rkH b (rkN b s) (rkT b s)) (rkF b (rkN b s) (rkT b s)) (popL (rkF b (rkN b s) (rkT b s)).length))
def r17S (b : List Int) (s : Nat × Int) : Nat × Int :=
  if rkX b s = 0 then p5S b (rkT b s)
  else if rkX b s = 1 ∨ rkX b s = 2 then (rkG b (rkN b s) (rkT b s)).2
  else (rkE b (rkN b s) (rkT b s)).2
theorem orE_mx {o : Bool} {l : List Int} {m : Nat} (h : l.length ≤ m) : (orE o l).length ≤ m := by
  cases o
  · exact Nat.zero_le _
  · exact h
theorem r17L_len (b : List Int) (s : Nat × Int) : (r17L b s).length ≤ 64 := by
  have hn : 0 ≤ rkN b s ∧ rkN b s < 5 := belowX_bd b (by omega) s
  have hp6 := pow_le6 (g := rkN b s) ⟨hn.1, by omega⟩
  unfold r17L; split
  · exact p5L_len b _
  · split
    · refine orE_mx ?_
      unfold pnL rkG
      rw [mkL_len, rndD_len]; exact hp6
    · refine orE_mx ?_
      unfold cnL
      rw [mkL_len]
      unfold rkH
      cases rkO b (rkN b s) (rkT b s)
      · show 2 ^ (0 : Int).toNat ≤ 64; decide
      · exact hp6
def t17 : MTab
  | [.bp 0 0], [.box T [.sl .u8 b, .i i, .i h]] => some (0 ≤ i ∧ b.length ≤ 1048576, .ag [.i (r17N b (i.toNat, h)), .own 1],
      [.box T [.sl .u8 b, .i ((r17S b (i.toNat, h)).1 : Int), .i (r17S b (i.toNat, h)).2], .row .i64 3 (r17L b (i.toNat, h))])
  | _, _ => none
theorem r17_ok : FitsM Tryz.prog 30 t17 := by
  refine ⟨?_⟩
  intro args L p out Ho h hp
  unfold t17 at h
  split at h <;> cases h
  rename_i T b i h
  refine mok_by (env_ok2 (env := [(73, tCnv), (72, tCvF), (71, tPnF), (37, tSize2)]) (envM := [(69, tBel), (70, tP5)]) (by simp only [fmA, and_true]; exact ⟨specCnv_ok, specCvF_ok, specPnF_ok, size2_ok⟩) (by simp only [fmA, and_true]; exact ⟨bel_ok, p5_ok⟩)) (callable_of Tryz.func30 (by kernel_rfl) rfl) Tryz.func30 rfl rfl rfl rfl rfl (by simp) ?_
  intro hlen c hc hX
  simp only [lensIn, AV.lenIn, AV.lenOk, List.getElem?_cons_zero, List.getElem?_cons_succ, true_and, and_true] at hlen
  simp only [Tryz.ntmps30, Tryz.results30, lsA, List.replicate, Nat.reduceAdd, Nat.reduceSub]
  obtain ⟨hi, hb⟩ := hp
  obtain ⟨i, rfl⟩ := Int.eq_ofNat_of_zero_le hi
  rw [Int.toNat_natCast]
  generalize hs : ((i, h) : Nat × Int) = s0
  have e1 : i = s0.1 := by rw [← hs]
  have e2 : h = s0.2 := by rw [← hs]
  subst e1 e2
  have hn : 0 ≤ rkN b s0 ∧ rkN b s0 < 5 := belowX_bd b (by omega) s0
  have fN : belowX b 5 s0 = rkN b s0 := rfl
  have fX : belowX b 6 (belowS b 5 s0) = rkX b s0 := rfl
  have fT : belowS b 6 (belowS b 5 s0) = rkT b s0 := rfl
  obtain ⟨n, hnn⟩ : ∃ n, rkN b s0 = n := ⟨_, rfl⟩
  obtain ⟨t, htt⟩ : ∃ t, rkT b s0 = t := ⟨_, rfl⟩
  rw [hnn] at hn
  have hsh := ishl_one (n := n) hn.1 (by omega)
  have hpw := pow_nat n.toNat
  have hp6 := pow_le6 (g := n) ⟨hn.1, by omega⟩
  have hrl := r17L_len b s0
  by_cases h0 : rkX b s0 = 0
  · have eG : r17N b s0 = p5G b t := by unfold r17N; rw [if_pos h0, htt]
    have eL : r17L b s0 = p5L b t := by unfold r17L; rw [if_pos h0, htt]
    have eS : r17S b s0 = p5S b t := by unfold r17S; rw [if_pos h0, htt]
    rw [eL] at hrl
    rw [eG, eL, eS]
    repeat' first | ((with_reducible show aol _ _ _ _ _); first|(refine gF (by rfl) ?_ ?_; focus simp only [go_sem]; done)|(refine gU (by rfl) ?_ ?_; focus simp only [go_sem]; done))|((with_reducible refine hK _ ?_); clear hK K; try simp only [nx])|(with_reducible first|refine aS fun K hK => ?_|refine aB ?_|apply And.intro|exact True.intro)|((first|((with_reducible show aol _ _ _ _ _); try first|(refine gT (by rfl) ?_ ?_; focus simp only [go_sem]; done)|refine gB (by rfl) (by rfl) (fun h => ?_) (fun h => ?_) <;> (try simp only [hsX, reduceCtorEq] at h))|((with_reducible show Awp _ _ (Code.region _ _ _) _ _); first|refine rK (by repeat constructor) (fun K hK => ?_)|(refine dK (by kernel_rfl) (by repeat constructor) (fun K hK => ?_)))) <;> simp (maxSteps := 2000000) (disch := omega) only [go_sem, ↓reduceIte, Nat.reduceEqDiff, Nat.reduceAdd, Nat.reduceLT, Nat.reduceLeDiff, Nat.reduceSub, tBel, tP5, pr_eta, fN, fX, fT, htt, h0])|((with_reducible show Awp _ _ (Code.cond _ _ _) _ _); refine aC rfl (fun h => ?_) (fun h => ?_) <;> (try simp only [hsX, reduceCtorEq] at h))|((with_reducible first|refine aK ?_|refine aR ?_); simp only [nx])|((with_reducible refine aE ?_); simp only [nx, ne_eq, not_false_eq_true, Nat.reduceEqDiff, reduceCtorEq]; try ((repeat ((fail_if_success refine hK _ ?_); clear hK K)); refine hK _ ?_; clear hK K))|((with_reducible first|show List.all _ _ = true|show lendOk _ _ = true); rfl)|omega|((with_reducible first|show ¬ _|show _ → _); intro h; first|contradiction|cases h; done|skip)
    all_goals (try (first|refine fK ?_|refine fM ?_; repeat clear hK))
    exact finm_pairS (d := tPair) (j := 2) (b := 1) [0, 2] rfl rfl rfl rfl rfl rfl rfl rfl rfl
  · by_cases h12 : rkX b s0 = 1 ∨ rkX b s0 = 2
    · have eG : r17N b s0 = or0 (pnOk (rkG b n t).1 (rkM b t)) ((rkG b n t).1.length : Int) := by unfold r17N; rw [if_neg h0, if_pos h12, hnn, htt]
      have eL : r17L b s0 = orE (pnOk (rkG b n t).1 (rkM b t)) (pnL (rkG b n t).1 (rkM b t)) := by unfold r17L; rw [if_neg h0, if_pos h12, hnn, htt]
      have eS : r17S b s0 = (rkG b n t).2 := by unfold r17S; rw [if_neg h0, if_pos h12, hnn, htt]
      have hd2 : (decide (rkX b s0 = 1) || decide (rkX b s0 = 2)) = true := by rcases h12 with h | h <;> simp [h]
      rw [eG, eL, eS]
      rw [eL] at hrl
      obtain ⟨u, hu⟩ : ∃ u, belowS b 3 (belowS b 3 t) = u := ⟨_, rfl⟩
      have hG : rkG b n t = rndD b 2 0 u n.toNat := by unfold rkG; rw [hu]
      have hM : [belowX b 3 t, belowX b 3 (belowS b 3 t)] = rkM b t := rfl
      rw [hG] at hrl ⊢
      generalize hm : rkM b t = m at hM hrl ⊢
      by_cases h1 : rkX b s0 = 1
      · repeat' first | ((with_reducible show aol _ _ _ _ _); first|(refine gF (by rfl) ?_ ?_; focus simp only [go_sem]; done)|(refine gU (by rfl) ?_ ?_; focus simp only [go_sem]; done))|((with_reducible refine hK _ ?_); clear hK K; try simp only [nx])|(with_reducible first|refine aS fun K hK => ?_|refine aB ?_|apply And.intro|exact True.intro)|((first|((with_reducible show aol _ _ _ _ _); try first|(refine gT (by rfl) ?_ ?_; focus simp only [go_sem]; done)|refine gB (by rfl) (by rfl) (fun h => ?_) (fun h => ?_) <;> (try simp only [hsX, reduceCtorEq] at h))|((with_reducible show Awp _ _ (Code.region _ _ _) _ _); first|refine rK (by repeat constructor) (fun K hK => ?_)|(refine dK (by kernel_rfl) (by repeat constructor) (fun K hK => ?_)))) <;> simp (maxSteps := 2000000) (disch := omega) only [go_sem, ↓reduceIte, Nat.reduceEqDiff, Nat.reduceAdd, Nat.reduceLT, Nat.reduceLeDiff, Nat.reduceSub, tBel, pr_eta, fN, fX, fT, hnn, htt, h1, hu, hM])|((with_reducible show Awp _ _ (Code.cond _ _ _) _ _); refine aC rfl (fun h => ?_) (fun h => ?_) <;> (try simp only [hsX, reduceCtorEq] at h))|((with_reducible first|refine aK ?_|refine aR ?_); simp only [nx])|((with_reducible refine aE ?_); simp only [nx, ne_eq, not_false_eq_true, Nat.reduceEqDiff, reduceCtorEq]; try ((repeat ((fail_if_success refine hK _ ?_); clear hK K)); refine hK _ ?_; clear hK K))|((with_reducible first|show List.all _ _ = true|show lendOk _ _ = true); rfl)|omega|((with_reducible first|show ¬ _|show _ → _); intro h; first|contradiction|cases h; done|skip)
        all_goals (try (first|refine fK ?_|refine fM ?_; repeat clear hK))
        refine awp_forR 1 hX (fun st (k : Nat) => st.at [0, 2, 3, 4] [(5, .own 3), (6, .i k)] [.box T [.sl .u8 b, .i ((rndD b 2 0 u k).2.1 : Int), .i (rndD b 2 0 u k).2.2], .box 26 [.i 0, .nl], .row .i64 3 m, .row .i64 3 (rndD b 2 0 u k).1]) (fun k => k ≤ n.toNat) (fun k => n.toNat - k) 0 (Nat.zero_le _) ?_ ?_
        · exact ⟨[0, 1, 2, 3], rfl, rfl, by simp [-List.getD_eq_getElem?_getD, -List.length_take, gdA, leFr, ASt.at, keepFr, updAll, upd_zero, upd_succ, AV.rnb, AV.rnb0, rndD], by simp [-List.getD_eq_getElem?_getD, gdA, ASt.at, AO.rnb, AV.rnb0, upd_k0, upd_k1, upd_k2, upd_k3, rndD], rfl, rfl⟩
        rintro k hk
        simp only [ASt.at, keepFr, updAll, upd_zero, upd_succ, lgA, Nat.reduceEqDiff, Nat.reduceAdd, ↓reduceIte, eq_self]
        have hgl := rndD_len b 2 0 u k
        by_cases hkl : k < n.toNat
        · repeat' first | ((with_reducible show aol _ _ _ _ _); first|(refine gF (by rfl) ?_ ?_; focus simp only [go_sem]; done)|(refine gU (by rfl) ?_ ?_; focus simp only [go_sem]; done))|((with_reducible refine hK _ ?_); clear hK K; try simp only [nx])|(with_reducible first|refine aS fun K hK => ?_|refine aB ?_|apply And.intro|exact True.intro)|((first|((with_reducible show aol _ _ _ _ _); try first|(refine gT (by rfl) ?_ ?_; focus simp only [go_sem]; done)|refine gB (by rfl) (by rfl) (fun h => ?_) (fun h => ?_) <;> (try simp only [hsX, reduceCtorEq] at h))|((with_reducible show Awp _ _ (Code.region _ _ _) _ _); first|refine rK (by repeat constructor) (fun K hK => ?_)|(refine dK (by kernel_rfl) (by repeat constructor) (fun K hK => ?_)))) <;> simp (maxSteps := 2000000) (disch := omega) only [go_sem, ↓reduceIte, Nat.reduceEqDiff, Nat.reduceAdd, Nat.reduceLT, Nat.reduceLeDiff, Nat.reduceSub, tBel, pr_eta])|((with_reducible show Awp _ _ (Code.cond _ _ _) _ _); refine aC rfl (fun h => ?_) (fun h => ?_) <;> (try simp only [hsX, reduceCtorEq] at h))|((with_reducible first|refine aK ?_|refine aR ?_); simp only [nx])|((with_reducible refine aE ?_); simp only [nx, ne_eq, not_false_eq_true, Nat.reduceEqDiff, reduceCtorEq]; try ((repeat ((fail_if_success refine hK _ ?_); clear hK K)); refine hK _ ?_; clear hK K))|((with_reducible first|show List.all _ _ = true|show lendOk _ _ = true); rfl)|omega|((with_reducible first|show ¬ _|show _ → _); intro h; first|contradiction|cases h; done|skip)
          all_goals (try (first|refine fK ?_|refine fM ?_; repeat clear hK))
          refine ⟨k + 1, by omega, by omega, ?_⟩
          exact ⟨[0, 1, 2, 5], rfl, rfl, by simp [-List.getD_eq_getElem?_getD, -List.length_take, gdA, leFr, ASt.at, keepFr, updAll, upd_zero, upd_succ, AV.rnb, AV.rnb0, rndD, Int.add_zero], by simp [-List.getD_eq_getElem?_getD, gdA, ASt.at, AO.rnb, AV.rnb0, upd_k0, upd_k1, upd_k2, upd_k3, rndD, Int.add_zero], rfl, rfl⟩
        · obtain rfl : k = n.toNat := by omega
          repeat' first | ((with_reducible show aol _ _ _ _ _); first|(refine gF (by rfl) ?_ ?_; focus simp only [go_sem]; done)|(refine gU (by rfl) ?_ ?_; focus simp only [go_sem]; done))|((with_reducible refine hK _ ?_); clear hK K; try simp only [nx])|(with_reducible first|refine aS fun K hK => ?_|refine aB ?_|apply And.intro|exact True.intro)|((first|((with_reducible show aol _ _ _ _ _); try first|(refine gT (by rfl) ?_ ?_; focus simp only [go_sem]; done)|refine gB (by rfl) (by rfl) (fun h => ?_) (fun h => ?_) <;> (try simp only [hsX, reduceCtorEq] at h))|((with_reducible show Awp _ _ (Code.region _ _ _) _ _); first|refine rK (by repeat constructor) (fun K hK => ?_)|(refine dK (by kernel_rfl) (by repeat constructor) (fun K hK => ?_)))) <;> simp (maxSteps := 2000000) (disch := omega) only [go_sem, ↓reduceIte, Nat.reduceEqDiff, Nat.reduceAdd, Nat.reduceLT, Nat.reduceLeDiff, Nat.reduceSub, tPnF])|((with_reducible show Awp _ _ (Code.cond _ _ _) _ _); refine aC rfl (fun h => ?_) (fun h => ?_) <;> (try simp only [hsX, reduceCtorEq] at h))|((with_reducible first|refine aK ?_|refine aR ?_); simp only [nx])|((with_reducible refine aE ?_); simp only [nx, ne_eq, not_false_eq_true, Nat.reduceEqDiff, reduceCtorEq]; try ((repeat ((fail_if_success refine hK _ ?_); clear hK K)); refine hK _ ?_; clear hK K))|((with_reducible first|show List.all _ _ = true|show lendOk _ _ = true); rfl)|omega|((with_reducible first|show ¬ _|show _ → _); intro h; first|contradiction|cases h; done|skip)
          all_goals (try (first|refine fK ?_|refine fM ?_; repeat clear hK))
          exact finm_pairS (d := tPair) (j := 4) (b := 1) [0, 4] rfl rfl rfl rfl rfl rfl rfl rfl rfl
      · have h2 : rkX b s0 = 2 := by rcases h12 with h | h; · exact absurd h h1
                                     · exact h
        repeat' first | ((with_reducible show aol _ _ _ _ _); first|(refine gF (by rfl) ?_ ?_; focus simp only [go_sem]; done)|(refine gU (by rfl) ?_ ?_; focus simp only [go_sem]; done))|((with_reducible refine hK _ ?_); clear hK K; try simp only [nx])|(with_reducible first|refine aS fun K hK => ?_|refine aB ?_|apply And.intro|exact True.intro)|((first|((with_reducible show aol _ _ _ _ _); try first|(refine gT (by rfl) ?_ ?_; focus simp only [go_sem]; done)|refine gB (by rfl) (by rfl) (fun h => ?_) (fun h => ?_) <;> (try simp only [hsX, reduceCtorEq] at h))|((with_reducible show Awp _ _ (Code.region _ _ _) _ _); first|refine rK (by repeat constructor) (fun K hK => ?_)|(refine dK (by kernel_rfl) (by repeat constructor) (fun K hK => ?_)))) <;> simp (maxSteps := 2000000) (disch := omega) only [go_sem, ↓reduceIte, Nat.reduceEqDiff, Nat.reduceAdd, Nat.reduceLT, Nat.reduceLeDiff, Nat.reduceSub, tBel, pr_eta, fN, fX, fT, hnn, htt, h2, hu, hM])|((with_reducible show Awp _ _ (Code.cond _ _ _) _ _); refine aC rfl (fun h => ?_) (fun h => ?_) <;> (try simp only [hsX, reduceCtorEq] at h))|((with_reducible first|refine aK ?_|refine aR ?_); simp only [nx])|((with_reducible refine aE ?_); simp only [nx, ne_eq, not_false_eq_true, Nat.reduceEqDiff, reduceCtorEq]; try ((repeat ((fail_if_success refine hK _ ?_); clear hK K)); refine hK _ ?_; clear hK K))|((with_reducible first|show List.all _ _ = true|show lendOk _ _ = true); rfl)|omega|((with_reducible first|show ¬ _|show _ → _); intro h; first|contradiction|cases h; done|skip)
        all_goals (try (first|refine fK ?_|refine fM ?_; repeat clear hK))
        refine awp_forR 1 hX (fun st (k : Nat) => st.at [0, 2, 3, 4] [(5, .own 3), (6, .i k)] [.box T [.sl .u8 b, .i ((rndD b 2 0 u k).2.1 : Int), .i (rndD b 2 0 u k).2.2], .box 26 [.i 0, .nl], .row .i64 3 m, .row .i64 3 (rndD b 2 0 u k).1]) (fun k => k ≤ n.toNat) (fun k => n.toNat - k) 0 (Nat.zero_le _) ?_ ?_
        · exact ⟨[0, 1, 2, 3], rfl, rfl, by simp [-List.getD_eq_getElem?_getD, -List.length_take, gdA, leFr, ASt.at, keepFr, updAll, upd_zero, upd_succ, AV.rnb, AV.rnb0, rndD], by simp [-List.getD_eq_getElem?_getD, gdA, ASt.at, AO.rnb, AV.rnb0, upd_k0, upd_k1, upd_k2, upd_k3, rndD], rfl, rfl⟩
        rintro k hk
        simp only [ASt.at, keepFr, updAll, upd_zero, upd_succ, lgA, Nat.reduceEqDiff, Nat.reduceAdd, ↓reduceIte, eq_self]
        have hgl := rndD_len b 2 0 u k
        by_cases hkl : k < n.toNat
        · repeat' first | ((with_reducible show aol _ _ _ _ _); first|(refine gF (by rfl) ?_ ?_; focus simp only [go_sem]; done)|(refine gU (by rfl) ?_ ?_; focus simp only [go_sem]; done))|((with_reducible refine hK _ ?_); clear hK K; try simp only [nx])|(with_reducible first|refine aS fun K hK => ?_|refine aB ?_|apply And.intro|exact True.intro)|((first|((with_reducible show aol _ _ _ _ _); try first|(refine gT (by rfl) ?_ ?_; focus simp only [go_sem]; done)|refine gB (by rfl) (by rfl) (fun h => ?_) (fun h => ?_) <;> (try simp only [hsX, reduceCtorEq] at h))|((with_reducible show Awp _ _ (Code.region _ _ _) _ _); first|refine rK (by repeat constructor) (fun K hK => ?_)|(refine dK (by kernel_rfl) (by repeat constructor) (fun K hK => ?_)))) <;> simp (maxSteps := 2000000) (disch := omega) only [go_sem, ↓reduceIte, Nat.reduceEqDiff, Nat.reduceAdd, Nat.reduceLT, Nat.reduceLeDiff, Nat.reduceSub, tBel, pr_eta])|((with_reducible show Awp _ _ (Code.cond _ _ _) _ _); refine aC rfl (fun h => ?_) (fun h => ?_) <;> (try simp only [hsX, reduceCtorEq] at h))|((with_reducible first|refine aK ?_|refine aR ?_); simp only [nx])|((with_reducible refine aE ?_); simp only [nx, ne_eq, not_false_eq_true, Nat.reduceEqDiff, reduceCtorEq]; try ((repeat ((fail_if_success refine hK _ ?_); clear hK K)); refine hK _ ?_; clear hK K))|((with_reducible first|show List.all _ _ = true|show lendOk _ _ = true); rfl)|omega|((with_reducible first|show ¬ _|show _ → _); intro h; first|contradiction|cases h; done|skip)
          all_goals (try (first|refine fK ?_|refine fM ?_; repeat clear hK))
          refine ⟨k + 1, by omega, by omega, ?_⟩
          exact ⟨[0, 1, 2, 5], rfl, rfl, by simp [-List.getD_eq_getElem?_getD, -List.length_take, gdA, leFr, ASt.at, keepFr, updAll, upd_zero, upd_succ, AV.rnb, AV.rnb0, rndD, Int.add_zero], by simp [-List.getD_eq_getElem?_getD, gdA, ASt.at, AO.rnb, AV.rnb0, upd_k0, upd_k1, upd_k2, upd_k3, rndD, Int.add_zero], rfl, rfl⟩
        · obtain rfl : k = n.toNat := by omega
          repeat' first | ((with_reducible show aol _ _ _ _ _); first|(refine gF (by rfl) ?_ ?_; focus simp only [go_sem]; done)|(refine gU (by rfl) ?_ ?_; focus simp only [go_sem]; done))|((with_reducible refine hK _ ?_); clear hK K; try simp only [nx])|(with_reducible first|refine aS fun K hK => ?_|refine aB ?_|apply And.intro|exact True.intro)|((first|((with_reducible show aol _ _ _ _ _); try first|(refine gT (by rfl) ?_ ?_; focus simp only [go_sem]; done)|refine gB (by rfl) (by rfl) (fun h => ?_) (fun h => ?_) <;> (try simp only [hsX, reduceCtorEq] at h))|((with_reducible show Awp _ _ (Code.region _ _ _) _ _); first|refine rK (by repeat constructor) (fun K hK => ?_)|(refine dK (by kernel_rfl) (by repeat constructor) (fun K hK => ?_)))) <;> simp (maxSteps := 2000000) (disch := omega) only [go_sem, ↓reduceIte, Nat.reduceEqDiff, Nat.reduceAdd, Nat.reduceLT, Nat.reduceLeDiff, Nat.reduceSub, tPnF])|((with_reducible show Awp _ _ (Code.cond _ _ _) _ _); refine aC rfl (fun h => ?_) (fun h => ?_) <;> (try simp only [hsX, reduceCtorEq] at h))|((with_reducible first|refine aK ?_|refine aR ?_); simp only [nx])|((with_reducible refine aE ?_); simp only [nx, ne_eq, not_false_eq_true, Nat.reduceEqDiff, reduceCtorEq]; try ((repeat ((fail_if_success refine hK _ ?_); clear hK K)); refine hK _ ?_; clear hK K))|((with_reducible first|show List.all _ _ = true|show lendOk _ _ = true); rfl)|omega|((with_reducible first|show ¬ _|show _ → _); intro h; first|contradiction|cases h; done|skip)
          all_goals (try (first|refine fK ?_|refine fM ?_; repeat clear hK))
          exact finm_pairS (d := tPair) (j := 4) (b := 1) [0, 4] rfl rfl rfl rfl rfl rfl rfl rfl rfl
    · have eG : r17N b s0 = or0 (rkC b n t) (rkH b n t) := by unfold r17N; rw [if_neg h0, if_neg h12, hnn, htt]
      have eL : r17L b s0 = orE (rkC b n t) (cnL (rkH b n t) (rkF b n t) (popL (rkF b n t).length)) := by unfold r17L; rw [if_neg h0, if_neg h12, hnn, htt]
      have eS : r17S b s0 = (rkE b n t).2 := by unfold r17S; rw [if_neg h0, if_neg h12, hnn, htt]
      have h1 : ¬ rkX b s0 = 1 := fun h => h12 (.inl h)
      have h2 : ¬ rkX b s0 = 2 := fun h => h12 (.inr h)
      rw [eG, eL, eS]
      rw [eL] at hrl
      have hk := belowX_bd b (n := 4) (by omega) t
      obtain ⟨k0, hk0⟩ := Int.eq_ofNat_of_zero_le hk.1
      rw [hk0] at hk
      have hE0 : rkE b n t = ucD b n k0 [] (belowS b 4 t) := by unfold rkE; rw [hk0, Int.toNat_natCast]
      repeat' first | ((with_reducible show aol _ _ _ _ _); first|(refine gF (by rfl) ?_ ?_; focus simp only [go_sem]; done)|(refine gU (by rfl) ?_ ?_; focus simp only [go_sem]; done))|((with_reducible refine hK _ ?_); clear hK K; try simp only [nx])|(with_reducible first|refine aS fun K hK => ?_|refine aB ?_|apply And.intro|exact True.intro)|((first|((with_reducible show aol _ _ _ _ _); try first|(refine gT (by rfl) ?_ ?_; focus simp only [go_sem]; done)|refine gB (by rfl) (by rfl) (fun h => ?_) (fun h => ?_) <;> (try simp only [hsX, reduceCtorEq] at h))|((with_reducible show Awp _ _ (Code.region _ _ _) _ _); first|refine rK (by repeat constructor) (fun K hK => ?_)|(refine dK (by kernel_rfl) (by repeat constructor) (fun K hK => ?_)))) <;> simp (maxSteps := 2000000) (disch := omega) only [go_sem, ↓reduceIte, Nat.reduceEqDiff, Nat.reduceAdd, Nat.reduceLT, Nat.reduceLeDiff, Nat.reduceSub, tBel, pr_eta, fN, fX, fT, hnn, htt, h1, h2, hk0])|((with_reducible show Awp _ _ (Code.cond _ _ _) _ _); refine aC rfl (fun h => ?_) (fun h => ?_) <;> (try simp only [hsX, reduceCtorEq] at h))|((with_reducible first|refine aK ?_|refine aR ?_); simp only [nx])|((with_reducible refine aE ?_); simp only [nx, ne_eq, not_false_eq_true, Nat.reduceEqDiff, reduceCtorEq]; try ((repeat ((fail_if_success refine hK _ ?_); clear hK K)); refine hK _ ?_; clear hK K))|((with_reducible first|show List.all _ _ = true|show lendOk _ _ = true); rfl)|omega|((with_reducible first|show ¬ _|show _ → _); intro h; first|contradiction|cases h; done|skip)
      all_goals (try (first|refine fK ?_|refine fM ?_; repeat clear hK))
      refine awp_forR 1 hX (fun st (x : Nat × List (Int × Int) × (Nat × Int)) => st.at [0, 2, 3] [(9, .own 2), (10, .i x.1)] [.box T [.sl .u8 b, .i (x.2.2.1 : Int), .i x.2.2.2], .box 26 [.i 0, .nl], .rc 79 2 (x.2.1.map blkC)])
        (fun x => x.2.1.length + x.1 ≤ 3 ∧ ucD b n x.1 x.2.1 x.2.2 = rkE b n t) (fun x => x.1) (k0, [], belowS b 4 t) ⟨by simp only [List.length_nil]; omega, hE0.symm⟩ ?_ ?_
      · exact ⟨[0, 1, 2], rfl, rfl, by simp [-List.getD_eq_getElem?_getD, -List.length_take, gdA, leFr, ASt.at, keepFr, updAll, upd_zero, upd_succ, AV.rnb, AV.rnb0, List.map_nil], by simp [-List.getD_eq_getElem?_getD, gdA, ASt.at, AO.rnb, AV.rnb0, upd_k0, upd_k1, upd_k2, upd_k3, List.map_nil], rfl, rfl⟩
      rintro ⟨k, L, s⟩ ⟨hlen2, hd⟩
      simp only [ASt.at, keepFr, updAll, upd_zero, upd_succ, lgA, Nat.reduceEqDiff, Nat.reduceAdd, ↓reduceIte, eq_self]
      have hll : (L.map blkC).length = L.length := List.length_map ..
      have hl2 : L.length + k ≤ 3 := hlen2
      cases k with
      | succ k =>
        have hd' : ucD b n k (L ++ [(belowX b (2 ^ n.toNat) s, 1)]) (belowS b (2 ^ n.toNat) s) = rkE b n t := hd
        repeat' first | ((with_reducible show aol _ _ _ _ _); first|(refine gF (by rfl) ?_ ?_; focus simp only [go_sem]; done)|(refine gU (by rfl) ?_ ?_; focus simp only [go_sem]; done))|((with_reducible refine hK _ ?_); clear hK K; try simp only [nx])|(with_reducible first|refine aS fun K hK => ?_|refine aB ?_|apply And.intro|exact True.intro)|((first|((with_reducible show aol _ _ _ _ _); try first|(refine gT (by rfl) ?_ ?_; focus simp only [go_sem]; done)|refine gB (by rfl) (by rfl) (fun h => ?_) (fun h => ?_) <;> (try simp only [hsX, reduceCtorEq] at h))|((with_reducible show Awp _ _ (Code.region _ _ _) _ _); first|refine rK (by repeat constructor) (fun K hK => ?_)|(refine dK (by kernel_rfl) (by repeat constructor) (fun K hK => ?_)))) <;> simp (maxSteps := 2000000) (disch := omega) only [go_sem, ↓reduceIte, Nat.reduceEqDiff, Nat.reduceAdd, Nat.reduceLT, Nat.reduceLeDiff, Nat.reduceSub, tBel, pr_eta, hll, hsh])|((with_reducible show Awp _ _ (Code.cond _ _ _) _ _); refine aC rfl (fun h => ?_) (fun h => ?_) <;> (try simp only [hsX, reduceCtorEq] at h))|((with_reducible first|refine aK ?_|refine aR ?_); simp only [nx])|((with_reducible refine aE ?_); simp only [nx, ne_eq, not_false_eq_true, Nat.reduceEqDiff, reduceCtorEq]; try ((repeat ((fail_if_success refine hK _ ?_); clear hK K)); refine hK _ ?_; clear hK K))|((with_reducible first|show List.all _ _ = true|show lendOk _ _ = true); rfl)|omega|((with_reducible first|show ¬ _|show _ → _); intro h; first|contradiction|cases h; done|skip)
        all_goals (try (first|refine fK ?_|refine fM ?_; repeat clear hK))
        refine ⟨(k, L ++ [(belowX b (2 ^ n.toNat) s, 1)], belowS b (2 ^ n.toNat) s), ⟨by show (L ++ [_]).length + k ≤ 3; rw [List.length_append, List.length_singleton]; omega, hd'⟩, Nat.lt_succ_self k, ?_⟩
        exact ⟨[0, 1, 4], rfl, rfl, by simp [-List.getD_eq_getElem?_getD, -List.length_take, gdA, leFr, ASt.at, keepFr, updAll, upd_zero, upd_succ, AV.rnb, AV.rnb0, List.map_append, List.map_cons, List.map_nil, blkC], by simp [-List.getD_eq_getElem?_getD, gdA, ASt.at, AO.rnb, AV.rnb0, upd_k0, upd_k1, upd_k2, upd_k3, List.map_append, List.map_cons, List.map_nil, blkC], rfl, rfl⟩
      | zero =>
        have hE : rkE b n t = (L, s) := hd.symm
        have he' : isBl (L.map blkC) = True := eq_true ⟨L, rfl⟩
        have hO : cvOk n (L.map blkC) = rkO b n t := by unfold rkO; rw [hE]
        have hF : orE (rkO b n t) (mkL (cvV (L.map blkC)) (2 ^ n.toNat)) = rkF b n t := by unfold rkF; rw [hE]
        have hH : or0 (rkO b n t) n = rkH b n t := rfl
        have hC : cnO (rkH b n t) (rkF b n t) n (popL (rkF b n t).length) = rkC b n t := rfl
        have hfl : (rkF b n t).length ≤ 64 := by
          unfold rkF; refine orE_mx ?_
          rw [mkL_len]; exact hp6
        generalize hff : rkF b n t = F at hF hC hfl hrl
        generalize hhh : rkH b n t = H at hH hC hrl
        repeat' first | ((with_reducible show aol _ _ _ _ _); first|(refine gF (by rfl) ?_ ?_; focus simp only [go_sem]; done)|(refine gU (by rfl) ?_ ?_; focus simp only [go_sem]; done))|((with_reducible refine hK _ ?_); clear hK K; try simp only [nx])|(with_reducible first|refine aS fun K hK => ?_|refine aB ?_|apply And.intro|exact True.intro)|((first|((with_reducible show aol _ _ _ _ _); try first|(refine gT (by rfl) ?_ ?_; focus simp only [go_sem]; done)|refine gB (by rfl) (by rfl) (fun h => ?_) (fun h => ?_) <;> (try simp only [hsX, reduceCtorEq] at h))|((with_reducible show Awp _ _ (Code.region _ _ _) _ _); first|refine rK (by repeat constructor) (fun K hK => ?_)|(refine dK (by kernel_rfl) (by repeat constructor) (fun K hK => ?_)))) <;> simp (maxSteps := 2000000) (disch := omega) only [go_sem, ↓reduceIte, Nat.reduceEqDiff, Nat.reduceAdd, Nat.reduceLT, Nat.reduceLeDiff, Nat.reduceSub, tCvF, he', hll, hO, hF, hH])|((with_reducible show Awp _ _ (Code.cond _ _ _) _ _); refine aC rfl (fun h => ?_) (fun h => ?_) <;> (try simp only [hsX, reduceCtorEq] at h))|((with_reducible first|refine aK ?_|refine aR ?_); simp only [nx])|((with_reducible refine aE ?_); simp only [nx, ne_eq, not_false_eq_true, Nat.reduceEqDiff, reduceCtorEq]; try ((repeat ((fail_if_success refine hK _ ?_); clear hK K)); refine hK _ ?_; clear hK K))|((with_reducible first|show List.all _ _ = true|show lendOk _ _ = true); rfl)|omega|((with_reducible first|show ¬ _|show _ → _); intro h; first|contradiction|cases h; done|skip)
        all_goals (try (first|refine fK ?_|refine fM ?_; repeat clear hK))
        refine awp_forR 1 hX (fun st (k : Nat) => st.at [2, 3, 11] [(13, .own 5), (14, .i k)] [.box T [.sl .u8 b, .i (s.1 : Int), .i s.2], .box 26 [.i 0, .nl], .rc 79 2 (L.map blkC), .row .i64 3 F, .box 26 [.i H, .own 3], .row .i64 3 (popL k)]) (fun k => k ≤ F.length) (fun k => F.length - k) 0 (Nat.zero_le _) ?_ ?_
        · exact ⟨[0, 1, 2, 3, 4, 5], rfl, rfl, by simp [-List.getD_eq_getElem?_getD, -List.length_take, gdA, leFr, ASt.at, keepFr, updAll, upd_zero, upd_succ, AV.rnb, AV.rnb0, popL], by simp [-List.getD_eq_getElem?_getD, gdA, ASt.at, AO.rnb, AV.rnb0, upd_k0, upd_k1, upd_k2, upd_k3, popL], rfl, rfl⟩
        rintro k hk
        simp only [ASt.at, keepFr, updAll, upd_zero, upd_succ, lgA, Nat.reduceEqDiff, Nat.reduceAdd, ↓reduceIte, eq_self]
        have hpl := popL_len k
        have tn : ((k : Int)).toNat = k := Int.toNat_natCast k
        by_cases hkl : k < F.length
        · repeat' first | ((with_reducible show aol _ _ _ _ _); first|(refine gF (by rfl) ?_ ?_; focus simp only [go_sem]; done)|(refine gU (by rfl) ?_ ?_; focus simp only [go_sem]; done))|((with_reducible refine hK _ ?_); clear hK K; try simp only [nx])|(with_reducible first|refine aS fun K hK => ?_|refine aB ?_|apply And.intro|exact True.intro)|((first|((with_reducible show aol _ _ _ _ _); try first|(refine gT (by rfl) ?_ ?_; focus simp only [go_sem]; done)|refine gB (by rfl) (by rfl) (fun h => ?_) (fun h => ?_) <;> (try simp only [hsX, reduceCtorEq] at h))|((with_reducible show Awp _ _ (Code.region _ _ _) _ _); first|refine rK (by repeat constructor) (fun K hK => ?_)|(refine dK (by kernel_rfl) (by repeat constructor) (fun K hK => ?_)))) <;> simp (maxSteps := 2000000) (disch := omega) only [go_sem, ↓reduceIte, Nat.reduceEqDiff, Nat.reduceAdd, Nat.reduceLT, Nat.reduceLeDiff, Nat.reduceSub, tSize2, tn])|((with_reducible show Awp _ _ (Code.cond _ _ _) _ _); refine aC rfl (fun h => ?_) (fun h => ?_) <;> (try simp only [hsX, reduceCtorEq] at h))|((with_reducible first|refine aK ?_|refine aR ?_); simp only [nx])|((with_reducible refine aE ?_); simp only [nx, ne_eq, not_false_eq_true, Nat.reduceEqDiff, reduceCtorEq]; try ((repeat ((fail_if_success refine hK _ ?_); clear hK K)); refine hK _ ?_; clear hK K))|((with_reducible first|show List.all _ _ = true|show lendOk _ _ = true); rfl)|omega|((with_reducible first|show ¬ _|show _ → _); intro h; first|contradiction|cases h; done|skip)
          all_goals (try (first|refine fK ?_|refine fM ?_; repeat clear hK))
          refine ⟨k + 1, by omega, by omega, ?_⟩
          exact ⟨[0, 1, 2, 3, 4, 7], rfl, rfl, by simp [-List.getD_eq_getElem?_getD, -List.length_take, gdA, leFr, ASt.at, keepFr, updAll, upd_zero, upd_succ, AV.rnb, AV.rnb0, popL], by simp [-List.getD_eq_getElem?_getD, gdA, ASt.at, AO.rnb, AV.rnb0, upd_k0, upd_k1, upd_k2, upd_k3, popL], rfl, rfl⟩
        · obtain rfl : k = F.length := by omega
          repeat' first | ((with_reducible show aol _ _ _ _ _); first|(refine gF (by rfl) ?_ ?_; focus simp only [go_sem]; done)|(refine gU (by rfl) ?_ ?_; focus simp only [go_sem]; done))|((with_reducible refine hK _ ?_); clear hK K; try simp only [nx])|(with_reducible first|refine aS fun K hK => ?_|refine aB ?_|apply And.intro|exact True.intro)|((first|((with_reducible show aol _ _ _ _ _); try first|(refine gT (by rfl) ?_ ?_; focus simp only [go_sem]; done)|refine gB (by rfl) (by rfl) (fun h => ?_) (fun h => ?_) <;> (try simp only [hsX, reduceCtorEq] at h))|((with_reducible show Awp _ _ (Code.region _ _ _) _ _); first|refine rK (by repeat constructor) (fun K hK => ?_)|(refine dK (by kernel_rfl) (by repeat constructor) (fun K hK => ?_)))) <;> simp (maxSteps := 2000000) (disch := omega) only [go_sem, ↓reduceIte, Nat.reduceEqDiff, Nat.reduceAdd, Nat.reduceLT, Nat.reduceLeDiff, Nat.reduceSub, tCnv, hC])|((with_reducible show Awp _ _ (Code.cond _ _ _) _ _); refine aC rfl (fun h => ?_) (fun h => ?_) <;> (try simp only [hsX, reduceCtorEq] at h))|((with_reducible first|refine aK ?_|refine aR ?_); simp only [nx])|((with_reducible refine aE ?_); simp only [nx, ne_eq, not_false_eq_true, Nat.reduceEqDiff, reduceCtorEq]; try ((repeat ((fail_if_success refine hK _ ?_); clear hK K)); refine hK _ ?_; clear hK K))|((with_reducible first|show List.all _ _ = true|show lendOk _ _ = true); rfl)|omega|((with_reducible first|show ¬ _|show _ → _); intro h; first|contradiction|cases h; done|skip)
          all_goals (try (first|refine fK ?_|refine fM ?_; repeat clear hK))
          rw [hE, hff, hhh]; exact finm_pairS (d := tPair) (j := 6) (b := 1) [0, 6] rfl rfl rfl rfl rfl rfl rfl rfl rfl
def drMat (b : List Int) : Int := r17N b (newV b)
def drMaL (b : List Int) : List Int := r17L b (newV b)
def tDr17 : Tab
  | [.sl .u8 b] => some (b.length ≤ 1048576, .ag [.i (drMat b), .own 0], [.row .i64 3 (drMaL b)])
  | _ => none
theorem elPop_all : ((List.range 64).all fun s => decide ((elL s 6).length = popN s)) = true := by kernel_rfl
theorem elPop {s : Nat} (h : s < 64) : (elL s 6).length = popN s := of_decide_eq_true (List.all_eq_true.1 elPop_all s (List.mem_range.2 h))
def tElOf : Tab
  | [.i n, .i s] => some ((0 ≤ n ∧ n ≤ 5) ∧ isSet n s = true, .own 0, [.row .i64 3 (elL s.toNat 6)])
  | _ => none
theorem specElOf_ok : Fits Tryz.prog 20 tElOf := by
  refine ⟨callable_of Tryz.func20 (by kernel_rfl) rfl, ?_⟩
  intro args p out Ho h hp
  unfold tElOf at h
  split at h <;> cases h
  rename_i n s
  refine ⟨acall_by (env_ok (env := [(55, tWithin), (56, tFull), (57, tElem)]) (by simp only [fmA, and_true]; exact ⟨specIn_ok, full_ok, list2_ok⟩)) Tryz.func20 rfl rfl rfl rfl rfl ?_, rfl, rfl⟩
  intro hlen c hc hX
  simp only [lensOk, AV.lenOk, true_and, and_true] at hlen
  simp only [Tryz.ntmps20, Tryz.results20, lsA, List.replicate, Nat.reduceAdd, Nat.reduceSub]
  obtain ⟨hn, hs⟩ := hp
  have h10 : inR n 0 10 = true := by rw [inR_iff]; omega
  have hs' := hs
  rw [isSet_iff] at hs'
  have hp6 := pow_le6 (g := n) ⟨hn.1, by omega⟩
  have hpw := pow_nat n.toNat
  have hel := elL_len s.toNat 6
  repeat' first | ((with_reducible show aol _ _ _ _ _); first|(refine gF (by rfl) ?_ ?_; focus simp only [go_sem]; done)|(refine gU (by rfl) ?_ ?_; focus simp only [go_sem]; done))|((with_reducible refine hK _ ?_); clear hK K; try simp only [nx])|(with_reducible first|refine aS fun K hK => ?_|refine aB ?_|apply And.intro|exact True.intro)|((first|((with_reducible show aol _ _ _ _ _); try first|(refine gT (by rfl) ?_ ?_; focus simp only [go_sem]; done)|refine gB (by rfl) (by rfl) (fun h => ?_) (fun h => ?_) <;> (try simp only [hsX, reduceCtorEq] at h))|((with_reducible show Awp _ _ (Code.region _ _ _) _ _); first|refine rK (by repeat constructor) (fun K hK => ?_)|(refine dK (by kernel_rfl) (by repeat constructor) (fun K hK => ?_)))) <;> simp (maxSteps := 2000000) (disch := omega) only [go_sem, ↓reduceIte, Nat.reduceEqDiff, Nat.reduceAdd, Nat.reduceLT, Nat.reduceLeDiff, Nat.reduceSub, tWithin, h10, tFull, inR_isSet, hs, tElem])|((with_reducible show Awp _ _ (Code.cond _ _ _) _ _); refine aC rfl (fun h => ?_) (fun h => ?_) <;> (try simp only [hsX, reduceCtorEq] at h))|((with_reducible first|refine aK ?_|refine aR ?_); simp only [nx])|((with_reducible refine aE ?_); simp only [nx, ne_eq, not_false_eq_true, Nat.reduceEqDiff, reduceCtorEq]; try ((repeat ((fail_if_success refine hK _ ?_); clear hK K)); refine hK _ ?_; clear hK K))|((with_reducible first|show List.all _ _ = true|show lendOk _ _ = true); rfl)|omega|((with_reducible first|show ¬ _|show _ → _); intro h; first|contradiction|cases h; done|skip)
  all_goals (try (first|refine fK ?_|refine fM ?_; repeat clear hK))
  exact fin_t1 [0] rfl rfl rfl
end Go.Proofs.YthoionlldmfpiaaGreat
