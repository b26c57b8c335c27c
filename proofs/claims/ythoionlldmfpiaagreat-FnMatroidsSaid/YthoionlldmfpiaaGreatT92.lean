import Derived.Test.YthoionlldmfpiaaGreatT91
import Derived.Test.YthoionlldmfpiaaGreatHs
import Derived.Test.YthoionlldmfpiaaGreatT83
set_option linter.unusedSimpArgs false
set_option linter.unusedVariables false
set_option maxHeartbeats 2000000
namespace Go.Proofs.YthoionlldmfpiaaGreat
open Go Go.Ab
attribute [local irreducible] aol
attribute [local irreducible] popN
theorem drBs_ok : Fits Tryz.prog 5 tDr17 := by
  refine ⟨callable_of Tryz.func5 (by kernel_rfl) rfl, ?_⟩
  intro args p out Ho h hp
  unfold tDr17 at h
  split at h <;> cases h
  rename_i b
  refine ⟨acall_by (env_ok2 (env := []) (envM := [(31, tNew), (30, t17)]) (by simp) (by simp only [fmA, and_true]; exact ⟨new_ok, r17_ok⟩)) Tryz.func5 rfl rfl rfl rfl rfl ?_, rfl, rfl⟩
  intro hlen c hc hX
  simp only [lensOk, AV.lenOk, true_and, and_true] at hlen
  simp only [Tryz.ntmps5, Tryz.results5, lsA, List.replicate, Nat.reduceAdd, Nat.reduceSub]
  have hl := r17L_len b (newV b)
  have fN : r17N b (newV b) = drMat b := rfl
  have fL : r17L b (newV b) = drMaL b := rfl
  rw [fL] at hl
  repeat' first | ((with_reducible show aol _ _ _ _ _); first|(refine gF (by rfl) ?_ ?_; focus simp only [go_sem]; done)|(refine gU (by rfl) ?_ ?_; focus simp only [go_sem]; done))|((with_reducible refine hK _ ?_); clear hK K; try simp only [nx])|(with_reducible first|refine aS fun K hK => ?_|refine aB ?_|apply And.intro|exact True.intro)|((first|((with_reducible show aol _ _ _ _ _); try first|(refine gT (by rfl) ?_ ?_; focus simp only [go_sem]; done)|refine gB (by rfl) (by rfl) (fun h => ?_) (fun h => ?_) <;> (try simp only [hsX, reduceCtorEq] at h))|((with_reducible show Awp _ _ (Code.region _ _ _) _ _); first|refine rK (by repeat constructor) (fun K hK => ?_)|(refine dK (by kernel_rfl) (by repeat constructor) (fun K hK => ?_)))) <;> simp (maxSteps := 2000000) (disch := omega) only [go_sem, ↓reduceIte, Nat.reduceEqDiff, Nat.reduceAdd, Nat.reduceLT, Nat.reduceLeDiff, Nat.reduceSub, tNew, t17, pr_eta, fN, fL])|((with_reducible show Awp _ _ (Code.cond _ _ _) _ _); refine aC rfl (fun h => ?_) (fun h => ?_) <;> (try simp only [hsX, reduceCtorEq] at h))|((with_reducible first|refine aK ?_|refine aR ?_); simp only [nx])|((with_reducible refine aE ?_); simp only [nx, ne_eq, not_false_eq_true, Nat.reduceEqDiff, reduceCtorEq]; try ((repeat ((fail_if_success refine hK _ ?_); clear hK K)); refine hK _ ?_; clear hK K))|((with_reducible first|show List.all _ _ = true|show lendOk _ _ = true); rfl)|omega|((with_reducible first|show ¬ _|show _ → _); intro h; first|contradiction|cases h; done|skip)
  all_goals (try (first|refine fK ?_|refine fM ?_; repeat clear hK))
  exact fin_pair (d := tPair) (j := 2) rfl rfl rfl rfl rfl rfl
def q7D (b : List Int) (n : Int) (s : Nat × Int) : List Int × (Nat × Int) := rndD b 9 (-4) s n.toNat
def q7O (b : List Int) (n : Int) (s : Nat × Int) : Bool := decide (0 < n) && onceX b 12 (q7D b n s).2
def q7L (b : List Int) (n : Int) (s : Nat × Int) : List Int := if q7O b n s = true then (q7D b n s).1.set 0 (pickX b [1000, 1001, 101, -9223372036854775808] (belowS b 12 (q7D b n s).2)) else (q7D b n s).1
def q7S (b : List Int) (n : Int) (s : Nat × Int) : Nat × Int := if q7O b n s = true then belowS b 4 (belowS b 12 (q7D b n s).2) else if 0 < n then belowS b 12 (q7D b n s).2 else (q7D b n s).2
theorem q7L_len (b : List Int) (n : Int) (s : Nat × Int) : (q7L b n s).length = n.toNat := by
  have h : (q7D b n s).1.length = n.toNat := rndD_len ..
  unfold q7L; split
  · rw [List.length_set]; exact h
  · exact h
def tQ7 : MTab
  | [.bp 0 0, .i n], [.box T [.sl .u8 b, .i i, .i h]] => some ((0 ≤ i ∧ b.length ≤ 1048576) ∧ 0 ≤ n ∧ n ≤ 5, .own 1,
      [.box T [.sl .u8 b, .i ((q7S b n (i.toNat, h)).1 : Int), .i (q7S b n (i.toNat, h)).2], .row .i64 3 (q7L b n (i.toNat, h))])
  | _, _ => none
theorem q7_ok : FitsM Tryz.prog 58 tQ7 := by
  refine ⟨?_⟩
  intro args L p out Ho h hp
  unfold tQ7 at h
  split at h <;> cases h
  rename_i n T b i h
  refine mok_by (env_ok2 (env := []) (envM := [(69, tBel), (91, tOnc), (92, tPkI)]) (by simp) (by simp only [fmA, and_true]; exact ⟨bel_ok, onc_ok, pkI_ok⟩)) (callable_of Tryz.func58 (by kernel_rfl) rfl) Tryz.func58 rfl rfl rfl rfl rfl (by simp) ?_
  intro hlen c hc hX
  simp only [lensIn, AV.lenIn, AV.lenOk, List.getElem?_cons_zero, List.getElem?_cons_succ, true_and, and_true] at hlen
  simp only [Tryz.ntmps58, Tryz.results58, lsA, List.replicate, Nat.reduceAdd, Nat.reduceSub]
  obtain ⟨⟨hi, hb⟩, hn0, hn5⟩ := hp
  obtain ⟨i, rfl⟩ := Int.eq_ofNat_of_zero_le hi
  rw [Int.toNat_natCast]
  generalize hs : ((i, h) : Nat × Int) = s0
  have e1 : i = s0.1 := by rw [← hs]
  have e2 : h = s0.2 := by rw [← hs]
  subst e1 e2
  have c4 : ((4 : Nat) : Int) = 4 := rfl
  repeat' first | ((with_reducible show aol _ _ _ _ _); first|(refine gF (by rfl) ?_ ?_; focus simp only [go_sem]; done)|(refine gU (by rfl) ?_ ?_; focus simp only [go_sem]; done))|((with_reducible refine hK _ ?_); clear hK K; try simp only [nx])|(with_reducible first|refine aS fun K hK => ?_|refine aB ?_|apply And.intro|exact True.intro)|((first|((with_reducible show aol _ _ _ _ _); try first|(refine gT (by rfl) ?_ ?_; focus simp only [go_sem]; done)|refine gB (by rfl) (by rfl) (fun h => ?_) (fun h => ?_) <;> (try simp only [hsX, reduceCtorEq] at h))|((with_reducible show Awp _ _ (Code.region _ _ _) _ _); first|refine rK (by repeat constructor) (fun K hK => ?_)|(refine dK (by kernel_rfl) (by repeat constructor) (fun K hK => ?_)))) <;> simp (maxSteps := 2000000) (disch := omega) only [go_sem, ↓reduceIte, Nat.reduceEqDiff, Nat.reduceAdd, Nat.reduceLT, Nat.reduceLeDiff, Nat.reduceSub])|((with_reducible show Awp _ _ (Code.cond _ _ _) _ _); refine aC rfl (fun h => ?_) (fun h => ?_) <;> (try simp only [hsX, reduceCtorEq] at h))|((with_reducible first|refine aK ?_|refine aR ?_); simp only [nx])|((with_reducible refine aE ?_); simp only [nx, ne_eq, not_false_eq_true, Nat.reduceEqDiff, reduceCtorEq]; try ((repeat ((fail_if_success refine hK _ ?_); clear hK K)); refine hK _ ?_; clear hK K))|((with_reducible first|show List.all _ _ = true|show lendOk _ _ = true); rfl)|omega|((with_reducible first|show ¬ _|show _ → _); intro h; first|contradiction|cases h; done|skip)
  all_goals (try (first|refine fK ?_|refine fM ?_; repeat clear hK))
  refine awp_forR 1 hX (fun st (k : Nat) => st.at [0, 1] [(5, .own 1), (6, .i k)] [.box T [.sl .u8 b, .i ((rndD b 9 (-4) s0 k).2.1 : Int), .i (rndD b 9 (-4) s0 k).2.2], .row .i64 3 (rndD b 9 (-4) s0 k).1]) (fun k => k ≤ n.toNat) (fun k => n.toNat - k) 0 (Nat.zero_le _) ?_ ?_
  · exact ⟨[0, 1], rfl, rfl, by simp [-List.getD_eq_getElem?_getD, -List.length_take, gdA, leFr, ASt.at, keepFr, updAll, upd_zero, upd_succ, AV.rnb, AV.rnb0, rndD], by simp [-List.getD_eq_getElem?_getD, gdA, ASt.at, AO.rnb, AV.rnb0, upd_k0, upd_k1, upd_k2, upd_k3, rndD], rfl, rfl⟩
  rintro k hk
  simp only [ASt.at, keepFr, updAll, upd_zero, upd_succ, lgA, Nat.reduceEqDiff, Nat.reduceAdd, ↓reduceIte, eq_self]
  have hrl := rndD_len b 9 (-4) s0 k
  by_cases hkl : k < n.toNat
  · have hb9 := belowX_bd b (n := 9) (by omega) (rndD b 9 (-4) s0 k).2
    have hsub : belowX b 9 (rndD b 9 (-4) s0 k).2 - 4 = belowX b 9 (rndD b 9 (-4) s0 k).2 + -4 := by omega
    repeat' first | ((with_reducible show aol _ _ _ _ _); first|(refine gF (by rfl) ?_ ?_; focus simp only [go_sem]; done)|(refine gU (by rfl) ?_ ?_; focus simp only [go_sem]; done))|((with_reducible refine hK _ ?_); clear hK K; try simp only [nx])|(with_reducible first|refine aS fun K hK => ?_|refine aB ?_|apply And.intro|exact True.intro)|((first|((with_reducible show aol _ _ _ _ _); try first|(refine gT (by rfl) ?_ ?_; focus simp only [go_sem]; done)|refine gB (by rfl) (by rfl) (fun h => ?_) (fun h => ?_) <;> (try simp only [hsX, reduceCtorEq] at h))|((with_reducible show Awp _ _ (Code.region _ _ _) _ _); first|refine rK (by repeat constructor) (fun K hK => ?_)|(refine dK (by kernel_rfl) (by repeat constructor) (fun K hK => ?_)))) <;> simp (maxSteps := 2000000) (disch := omega) only [go_sem, ↓reduceIte, Nat.reduceEqDiff, Nat.reduceAdd, Nat.reduceLT, Nat.reduceLeDiff, Nat.reduceSub, tBel, pr_eta, hsub])|((with_reducible show Awp _ _ (Code.cond _ _ _) _ _); refine aC rfl (fun h => ?_) (fun h => ?_) <;> (try simp only [hsX, reduceCtorEq] at h))|((with_reducible first|refine aK ?_|refine aR ?_); simp only [nx])|((with_reducible refine aE ?_); simp only [nx, ne_eq, not_false_eq_true, Nat.reduceEqDiff, reduceCtorEq]; try ((repeat ((fail_if_success refine hK _ ?_); clear hK K)); refine hK _ ?_; clear hK K))|((with_reducible first|show List.all _ _ = true|show lendOk _ _ = true); rfl)|omega|((with_reducible first|show ¬ _|show _ → _); intro h; first|contradiction|cases h; done|skip)
    all_goals (try (first|refine fK ?_|refine fM ?_; repeat clear hK))
    refine ⟨k + 1, by omega, by omega, ?_⟩
    exact ⟨[0, 3], rfl, rfl, by simp [-List.getD_eq_getElem?_getD, -List.length_take, gdA, leFr, ASt.at, keepFr, updAll, upd_zero, upd_succ, AV.rnb, AV.rnb0, rndD], by simp [-List.getD_eq_getElem?_getD, gdA, ASt.at, AO.rnb, AV.rnb0, upd_k0, upd_k1, upd_k2, upd_k3, rndD], rfl, rfl⟩
  · obtain rfl : k = n.toNat := by omega
    have hD : rndD b 9 (-4) s0 n.toNat = q7D b n s0 := rfl
    rw [hD] at hrl
    by_cases hn : 0 < n
    · cases ho : onceX b 12 (q7D b n s0).2 with
      | true =>
        have eO : q7O b n s0 = true := by unfold q7O; rw [ho, decide_eq_true hn]; rfl
        have eL : q7L b n s0 = (q7D b n s0).1.set 0 (pickX b [1000, 1001, 101, -9223372036854775808] (belowS b 12 (q7D b n s0).2)) := if_pos eO
        have eS : q7S b n s0 = belowS b 4 (belowS b 12 (q7D b n s0).2) := if_pos eO
        repeat' first | ((with_reducible show aol _ _ _ _ _); first|(refine gF (by rfl) ?_ ?_; focus simp only [go_sem]; done)|(refine gU (by rfl) ?_ ?_; focus simp only [go_sem]; done))|((with_reducible refine hK _ ?_); clear hK K; try simp only [nx])|(with_reducible first|refine aS fun K hK => ?_|refine aB ?_|apply And.intro|exact True.intro)|((first|((with_reducible show aol _ _ _ _ _); try first|(refine gT (by rfl) ?_ ?_; focus simp only [go_sem]; done)|refine gB (by rfl) (by rfl) (fun h => ?_) (fun h => ?_) <;> (try simp only [hsX, reduceCtorEq] at h))|((with_reducible show Awp _ _ (Code.region _ _ _) _ _); first|refine rK (by repeat constructor) (fun K hK => ?_)|(refine dK (by kernel_rfl) (by repeat constructor) (fun K hK => ?_)))) <;> simp (maxSteps := 2000000) (disch := omega) only [go_sem, ↓reduceIte, Nat.reduceEqDiff, Nat.reduceAdd, Nat.reduceLT, Nat.reduceLeDiff, Nat.reduceSub, hD, tOnc, tPkI, pr_eta, ho, c4])|((with_reducible show Awp _ _ (Code.cond _ _ _) _ _); refine aC rfl (fun h => ?_) (fun h => ?_) <;> (try simp only [hsX, reduceCtorEq] at h))|((with_reducible first|refine aK ?_|refine aR ?_); simp only [nx])|((with_reducible refine aE ?_); simp only [nx, ne_eq, not_false_eq_true, Nat.reduceEqDiff, reduceCtorEq]; try ((repeat ((fail_if_success refine hK _ ?_); clear hK K)); refine hK _ ?_; clear hK K))|((with_reducible first|show List.all _ _ = true|show lendOk _ _ = true); rfl)|omega|((with_reducible first|show ¬ _|show _ → _); intro h; first|contradiction|cases h; done|skip)
        all_goals (try (first|refine fK ?_|refine fM ?_; repeat clear hK))
        all_goals (rw [eL, eS]; exact finm_t [0, 1] rfl rfl rfl rfl)
      | false =>
        have eO : ¬ q7O b n s0 = true := by unfold q7O; rw [ho, Bool.and_false]; decide
        have eL : q7L b n s0 = (q7D b n s0).1 := if_neg eO
        have eS : q7S b n s0 = belowS b 12 (q7D b n s0).2 := by unfold q7S; rw [if_neg eO, if_pos hn]
        repeat' first | ((with_reducible show aol _ _ _ _ _); first|(refine gF (by rfl) ?_ ?_; focus simp only [go_sem]; done)|(refine gU (by rfl) ?_ ?_; focus simp only [go_sem]; done))|((with_reducible refine hK _ ?_); clear hK K; try simp only [nx])|(with_reducible first|refine aS fun K hK => ?_|refine aB ?_|apply And.intro|exact True.intro)|((first|((with_reducible show aol _ _ _ _ _); try first|(refine gT (by rfl) ?_ ?_; focus simp only [go_sem]; done)|refine gB (by rfl) (by rfl) (fun h => ?_) (fun h => ?_) <;> (try simp only [hsX, reduceCtorEq] at h))|((with_reducible show Awp _ _ (Code.region _ _ _) _ _); first|refine rK (by repeat constructor) (fun K hK => ?_)|(refine dK (by kernel_rfl) (by repeat constructor) (fun K hK => ?_)))) <;> simp (maxSteps := 2000000) (disch := omega) only [go_sem, ↓reduceIte, Nat.reduceEqDiff, Nat.reduceAdd, Nat.reduceLT, Nat.reduceLeDiff, Nat.reduceSub, hD, tOnc, tPkI, pr_eta, ho, c4])|((with_reducible show Awp _ _ (Code.cond _ _ _) _ _); refine aC rfl (fun h => ?_) (fun h => ?_) <;> (try simp only [hsX, reduceCtorEq] at h))|((with_reducible first|refine aK ?_|refine aR ?_); simp only [nx])|((with_reducible refine aE ?_); simp only [nx, ne_eq, not_false_eq_true, Nat.reduceEqDiff, reduceCtorEq]; try ((repeat ((fail_if_success refine hK _ ?_); clear hK K)); refine hK _ ?_; clear hK K))|((with_reducible first|show List.all _ _ = true|show lendOk _ _ = true); rfl)|omega|((with_reducible first|show ¬ _|show _ → _); intro h; first|contradiction|cases h; done|skip)
        all_goals (try (first|refine fK ?_|refine fM ?_; repeat clear hK))
        all_goals (rw [eL, eS]; exact finm_t [0, 1] rfl rfl rfl rfl)
    · have eO : ¬ q7O b n s0 = true := by unfold q7O; rw [decide_eq_false hn, Bool.false_and]; decide
      have eL : q7L b n s0 = (q7D b n s0).1 := if_neg eO
      have eS : q7S b n s0 = (q7D b n s0).2 := by unfold q7S; rw [if_neg eO, if_neg hn]
      repeat' first | ((with_reducible show aol _ _ _ _ _); first|(refine gF (by rfl) ?_ ?_; focus simp only [go_sem]; done)|(refine gU (by rfl) ?_ ?_; focus simp only [go_sem]; done))|((with_reducible refine hK _ ?_); clear hK K; try simp only [nx])|(with_reducible first|refine aS fun K hK => ?_|refine aB ?_|apply And.intro|exact True.intro)|((first|((with_reducible show aol _ _ _ _ _); try first|(refine gT (by rfl) ?_ ?_; focus simp only [go_sem]; done)|refine gB (by rfl) (by rfl) (fun h => ?_) (fun h => ?_) <;> (try simp only [hsX, reduceCtorEq] at h))|((with_reducible show Awp _ _ (Code.region _ _ _) _ _); first|refine rK (by repeat constructor) (fun K hK => ?_)|(refine dK (by kernel_rfl) (by repeat constructor) (fun K hK => ?_)))) <;> simp (maxSteps := 2000000) (disch := omega) only [go_sem, ↓reduceIte, Nat.reduceEqDiff, Nat.reduceAdd, Nat.reduceLT, Nat.reduceLeDiff, Nat.reduceSub, hD, pr_eta])|((with_reducible show Awp _ _ (Code.cond _ _ _) _ _); refine aC rfl (fun h => ?_) (fun h => ?_) <;> (try simp only [hsX, reduceCtorEq] at h))|((with_reducible first|refine aK ?_|refine aR ?_); simp only [nx])|((with_reducible refine aE ?_); simp only [nx, ne_eq, not_false_eq_true, Nat.reduceEqDiff, reduceCtorEq]; try ((repeat ((fail_if_success refine hK _ ?_); clear hK K)); refine hK _ ?_; clear hK K))|((with_reducible first|show List.all _ _ = true|show lendOk _ _ = true); rfl)|omega|((with_reducible first|show ¬ _|show _ → _); intro h; first|contradiction|cases h; done|skip)
      all_goals (try (first|refine fK ?_|refine fM ?_; repeat clear hK))
      all_goals (rw [eL, eS]; exact finm_t [0, 1] rfl rfl rfl rfl)
def hbM (n : Int) : Int := if 0 < (if n < 5 then n else 5) then (if n < 5 then n else 5) else 0
theorem hbM_bd (n : Int) : 0 ≤ hbM n ∧ hbM n ≤ 5 := by unfold hbM; split <;> split <;> omega
def hbW (b : List Int) : List Int := q7L b (hbM (drMat b)) (r17S b (newV b))
def tDrHb : Tab
  | [.sl .u8 b] => some (b.length ≤ 1048576, .tu [.ag [.i (drMat b), .own 0], .own 1], [.row .i64 3 (drMaL b), .row .i64 3 (hbW b)])
  | _ => none
theorem fin_po {C : Cfg} {t u : Tmp} {b1 j1 j2 k1 k2 : Nat} {T T1 : TypeId} {n1 : Int} {d : TD} {Ho : List AO} {s : ASt} (σ : List Nat) (hT : C.Γ T = some d) (ha : d.agg = true) (hs : d.size = 2)
    (h1 : nth s.fr t = .bp b1 0) (h2 : nth s.fr u = .own j2) (hb1 : s.hp[b1]? = some (.box T1 [.i n1, .own j1])) (e1 : σ.getD k1 0 = j1) (e2 : σ.getD k2 0 = j2)
    (hn : nodupB σ = true) (h3 : σ.map (fun i => s.hp[i]?) = Ho.map (fun o => some (o.ren σ))) : FinS C [.cell t T, .tmp u] (.tu [.ag [.i n1, .own k1], .own k2]) Ho s :=
  ⟨s, Wk.refl s, (0 + 2 ≤ 2) ∧ True ∧ True, .tu [.ag [.i n1, .own j1], .own j2], by simp [resV, resVs, resV1, aLoad, hT, ha, hs, h1, h2, hb1], ⟨by omega, trivial, trivial⟩, σ, nodupB_spec hn, by simp [AV.ren, AV.ren1, AV.ren0, ← e1, ← e2], h3⟩
theorem drHb_ok : Fits Tryz.prog 21 tDrHb := by
  refine ⟨callable_of Tryz.func21 (by kernel_rfl) rfl, ?_⟩
  intro args p out Ho h hp
  unfold tDrHb at h
  split at h <;> cases h
  rename_i b
  refine ⟨acall_by (env_ok2 (env := []) (envM := [(31, tNew), (30, t17), (58, tQ7)]) (by simp) (by simp only [fmA, and_true]; exact ⟨new_ok, r17_ok, q7_ok⟩)) Tryz.func21 rfl rfl rfl rfl rfl ?_, rfl, rfl⟩
  intro hlen c hc hX
  simp only [lensOk, AV.lenOk, true_and, and_true] at hlen
  simp only [Tryz.ntmps21, Tryz.results21, lsA, List.replicate, Nat.reduceAdd, Nat.reduceSub]
  have hl := r17L_len b (newV b)
  have fN : r17N b (newV b) = drMat b := rfl
  have fL : r17L b (newV b) = drMaL b := rfl
  obtain ⟨s1, hs1⟩ : ∃ s1, r17S b (newV b) = s1 := ⟨_, rfl⟩
  rw [fL] at hl
  have hM : (if 0 < (if drMat b < 5 then drMat b else 5) then (if drMat b < 5 then drMat b else 5) else 0) = hbM (drMat b) := rfl
  have hMb := hbM_bd (drMat b)
  have hW : q7L b (hbM (drMat b)) s1 = hbW b := by unfold hbW; rw [hs1]
  have hWl : (hbW b).length ≤ 5 := by unfold hbW; rw [q7L_len]; omega
  repeat' first | ((with_reducible show aol _ _ _ _ _); first|(refine gF (by rfl) ?_ ?_; focus simp only [go_sem]; done)|(refine gU (by rfl) ?_ ?_; focus simp only [go_sem]; done))|((with_reducible refine hK _ ?_); clear hK K; try simp only [nx])|(with_reducible first|refine aS fun K hK => ?_|refine aB ?_|apply And.intro|exact True.intro)|((with_reducible show Awp _ _ (Code.region 3 _ true) _ _); (refine awp_ordersK [[1, 0, 2, 3, 4, 5, 6, 7, 8], [1, 2, 0, 3, 4, 5, 6, 7, 8], [1, 2, 3, 0, 4, 5, 6, 7, 8], [1, 2, 3, 4, 0, 5, 6, 7, 8], [1, 2, 3, 4, 5, 0, 6, 7, 8], [1, 2, 3, 4, 5, 6, 0, 7, 8]] (by kernel_rfl) (by kernel_rfl) (by repeat constructor) (fun K hK => ?_); simp only [Alls, and_true]; (repeat' apply And.intro) <;> (refine ⟨_, by repeat constructor, ?_⟩; simp (config := { maxSteps := 2000000 }) (disch := omega) only [go_sem, ↓reduceIte, Nat.reduceEqDiff, Nat.reduceAdd, Nat.reduceLT, Nat.reduceLeDiff, Nat.reduceSub, tNew, t17, tQ7, pr_eta, fN, fL, hs1, hM, hW])))|((first|((with_reducible show aol _ _ _ _ _); try first|(refine gT (by rfl) ?_ ?_; focus simp only [go_sem]; done)|refine gB (by rfl) (by rfl) (fun h => ?_) (fun h => ?_) <;> (try simp only [hsX, reduceCtorEq] at h))|((with_reducible show Awp _ _ (Code.region _ _ _) _ _); first|refine rK (by repeat constructor) (fun K hK => ?_)|(refine dK (by kernel_rfl) (by repeat constructor) (fun K hK => ?_)))) <;> simp (maxSteps := 2000000) (disch := omega) only [go_sem, ↓reduceIte, Nat.reduceEqDiff, Nat.reduceAdd, Nat.reduceLT, Nat.reduceLeDiff, Nat.reduceSub, tNew, t17, tQ7, pr_eta, fN, fL, hs1, hM, hW])|((with_reducible show Awp _ _ (Code.cond _ _ _) _ _); refine aC rfl (fun h => ?_) (fun h => ?_) <;> (try simp only [hsX, reduceCtorEq] at h))|((with_reducible first|refine aK ?_|refine aR ?_); simp only [nx])|((with_reducible refine aE ?_); simp only [nx, ne_eq, not_false_eq_true, Nat.reduceEqDiff, reduceCtorEq]; try ((repeat ((fail_if_success refine hK _ ?_); clear hK K)); refine hK _ ?_; clear hK K))|((with_reducible first|show List.all _ _ = true|show lendOk _ _ = true); rfl)|omega|((with_reducible first|show ¬ _|show _ → _); intro h; first|contradiction|cases h; done|skip)
  all_goals (try (first|refine fK ?_|refine fM ?_; repeat clear hK))
  all_goals exact fin_po (d := tPair) [2, 4] rfl rfl rfl rfl rfl rfl rfl rfl rfl rfl
def lfS (b : List Int) : Nat × Int := r17S b (newV b)
def lfO (b : List Int) : Bool := matV (drMat b) (drMaL b) && !onceX b 3 (lfS b)
def lfT (b : List Int) : Nat × Int := if matV (drMat b) (drMaL b) = true then belowS b 3 (lfS b) else lfS b
def lfG (b : List Int) : Int := if lfO b = true then drMat b else anyG b (lfT b)
def lfL (b : List Int) : List Int := if lfO b = true then bsL (drMat b) (drMaL b) else anyL b (lfT b)
theorem bsL_len {n : Int} {l : List Int} (h : matV n l = true) : (bsL n l).length ≤ 32 := by
  obtain ⟨_, _, h32⟩ := mat_n5 h
  exact Nat.le_trans (rangeL_len ..) h32
theorem lfL_len (b : List Int) : (lfL b).length ≤ 32 := by
  unfold lfL; split
  · rename_i h
    unfold lfO at h
    rw [Bool.and_eq_true] at h
    exact bsL_len h.1
  · have := anyL_len b (lfT b); omega
def tDrLf : Tab
  | [.sl .u8 b] => some (b.length ≤ 1048576, .ag [.i (lfG b), .own 0], [.row .i64 3 (lfL b)])
  | _ => none
theorem l17F_ok : Fits Tryz.prog 64 tDrLf := by
  refine ⟨callable_of Tryz.func64 (by kernel_rfl) rfl, ?_⟩
  intro args p out Ho h hp
  unfold tDrLf at h
  split at h <;> cases h
  rename_i b
  refine ⟨acall_by (env_ok2 (env := [(7, tBss)]) (envM := [(31, tNew), (30, t17), (91, tOnc), (97, tAny)]) (by simp only [fmA, and_true]; exact specBss_ok) (by simp only [fmA, and_true]; exact ⟨new_ok, r17_ok, onc_ok, any_ok⟩)) Tryz.func64 rfl rfl rfl rfl rfl ?_, rfl, rfl⟩
  intro hlen c hc hX
  simp only [lensOk, AV.lenOk, true_and, and_true] at hlen
  simp only [Tryz.ntmps64, Tryz.results64, lsA, List.replicate, Nat.reduceAdd, Nat.reduceSub]
  have hl := r17L_len b (newV b)
  have fN : r17N b (newV b) = drMat b := rfl
  have fL : r17L b (newV b) = drMaL b := rfl
  have fS : r17S b (newV b) = lfS b := rfl
  rw [fL] at hl
  obtain ⟨n, hn⟩ : ∃ n, drMat b = n := ⟨_, rfl⟩
  obtain ⟨l, hl2⟩ : ∃ l, drMaL b = l := ⟨_, rfl⟩
  obtain ⟨s, hs⟩ : ∃ s, lfS b = s := ⟨_, rfl⟩
  rw [hl2] at hl
  cases hm : matV n l with
  | false =>
    have eO : ¬ lfO b = true := by unfold lfO; rw [hn, hl2, hm]; simp
    have eT : lfT b = s := by unfold lfT; rw [hn, hl2, hm, if_neg (by decide), hs]
    have eG : lfG b = anyG b s := by unfold lfG; rw [if_neg eO, eT]
    have eL : lfL b = anyL b s := by unfold lfL; rw [if_neg eO, eT]
    have hal := anyL_len b s
    rw [eG, eL]
    repeat' first | ((with_reducible show aol _ _ _ _ _); first|(refine gF (by rfl) ?_ ?_; focus simp only [go_sem]; done)|(refine gU (by rfl) ?_ ?_; focus simp only [go_sem]; done))|((with_reducible refine hK _ ?_); clear hK K; try simp only [nx])|(with_reducible first|refine aS fun K hK => ?_|refine aB ?_|apply And.intro|exact True.intro)|((first|((with_reducible show aol _ _ _ _ _); try first|(refine gT (by rfl) ?_ ?_; focus simp only [go_sem]; done)|refine gB (by rfl) (by rfl) (fun h => ?_) (fun h => ?_) <;> (try simp only [hsX, reduceCtorEq] at h))|((with_reducible show Awp _ _ (Code.region _ _ _) _ _); first|refine rK (by repeat constructor) (fun K hK => ?_)|(refine dK (by kernel_rfl) (by repeat constructor) (fun K hK => ?_)))) <;> simp (maxSteps := 2000000) (disch := omega) only [go_sem, ↓reduceIte, Nat.reduceEqDiff, Nat.reduceAdd, Nat.reduceLT, Nat.reduceLeDiff, Nat.reduceSub, tNew, t17, pr_eta, fN, fL, fS, hn, hl2, hs, tBss, hm, tAny, orE_f])|((with_reducible show Awp _ _ (Code.cond _ _ _) _ _); refine aC rfl (fun h => ?_) (fun h => ?_) <;> (try simp only [hsX, reduceCtorEq] at h))|((with_reducible first|refine aK ?_|refine aR ?_); simp only [nx])|((with_reducible refine aE ?_); simp only [nx, ne_eq, not_false_eq_true, Nat.reduceEqDiff, reduceCtorEq]; try ((repeat ((fail_if_success refine hK _ ?_); clear hK K)); refine hK _ ?_; clear hK K))|((with_reducible first|show List.all _ _ = true|show lendOk _ _ = true); rfl)|omega|((with_reducible first|show ¬ _|show _ → _); intro h; first|contradiction|cases h; done|skip)
    all_goals (try (first|refine fK ?_|refine fM ?_; repeat clear hK))
    exact fin_pair (d := tPair) (j := 5) rfl rfl rfl rfl rfl rfl
  | true =>
    have hbl := bsL_len hm
    cases ho : onceX b 3 s with
    | true =>
      have eO : ¬ lfO b = true := by unfold lfO; rw [hs, ho]; simp
      have eT : lfT b = belowS b 3 s := by unfold lfT; rw [hn, hl2, if_pos hm, hs]
      have eG : lfG b = anyG b (belowS b 3 s) := by unfold lfG; rw [if_neg eO, eT]
      have eL : lfL b = anyL b (belowS b 3 s) := by unfold lfL; rw [if_neg eO, eT]
      have hal := anyL_len b (belowS b 3 s)
      rw [eG, eL]
      repeat' first | ((with_reducible show aol _ _ _ _ _); first|(refine gF (by rfl) ?_ ?_; focus simp only [go_sem]; done)|(refine gU (by rfl) ?_ ?_; focus simp only [go_sem]; done))|((with_reducible refine hK _ ?_); clear hK K; try simp only [nx])|(with_reducible first|refine aS fun K hK => ?_|refine aB ?_|apply And.intro|exact True.intro)|((first|((with_reducible show aol _ _ _ _ _); try first|(refine gT (by rfl) ?_ ?_; focus simp only [go_sem]; done)|refine gB (by rfl) (by rfl) (fun h => ?_) (fun h => ?_) <;> (try simp only [hsX, reduceCtorEq] at h))|((with_reducible show Awp _ _ (Code.region _ _ _) _ _); first|refine rK (by repeat constructor) (fun K hK => ?_)|(refine dK (by kernel_rfl) (by repeat constructor) (fun K hK => ?_)))) <;> simp (maxSteps := 2000000) (disch := omega) only [go_sem, ↓reduceIte, Nat.reduceEqDiff, Nat.reduceAdd, Nat.reduceLT, Nat.reduceLeDiff, Nat.reduceSub, tNew, t17, pr_eta, fN, fL, fS, hn, hl2, hs, tBss, hm, tOnc, ho, tAny, or0_t, orE_t])|((with_reducible show Awp _ _ (Code.cond _ _ _) _ _); refine aC rfl (fun h => ?_) (fun h => ?_) <;> (try simp only [hsX, reduceCtorEq] at h))|((with_reducible first|refine aK ?_|refine aR ?_); simp only [nx])|((with_reducible refine aE ?_); simp only [nx, ne_eq, not_false_eq_true, Nat.reduceEqDiff, reduceCtorEq]; try ((repeat ((fail_if_success refine hK _ ?_); clear hK K)); refine hK _ ?_; clear hK K))|((with_reducible first|show List.all _ _ = true|show lendOk _ _ = true); rfl)|omega|((with_reducible first|show ¬ _|show _ → _); intro h; first|contradiction|cases h; done|skip)
      all_goals (try (first|refine fK ?_|refine fM ?_; repeat clear hK))
      exact fin_pair (d := tPair) (j := 5) rfl rfl rfl rfl rfl rfl
    | false =>
      have eO : lfO b = true := by unfold lfO; rw [hn, hl2, hm, hs, ho]; rfl
      have eG : lfG b = n := by unfold lfG; rw [if_pos eO, hn]
      have eL : lfL b = bsL n l := by unfold lfL; rw [if_pos eO, hn, hl2]
      rw [eG, eL]
      repeat' first | ((with_reducible show aol _ _ _ _ _); first|(refine gF (by rfl) ?_ ?_; focus simp only [go_sem]; done)|(refine gU (by rfl) ?_ ?_; focus simp only [go_sem]; done))|((with_reducible refine hK _ ?_); clear hK K; try simp only [nx])|(with_reducible first|refine aS fun K hK => ?_|refine aB ?_|apply And.intro|exact True.intro)|((first|((with_reducible show aol _ _ _ _ _); try first|(refine gT (by rfl) ?_ ?_; focus simp only [go_sem]; done)|refine gB (by rfl) (by rfl) (fun h => ?_) (fun h => ?_) <;> (try simp only [hsX, reduceCtorEq] at h))|((with_reducible show Awp _ _ (Code.region _ _ _) _ _); first|refine rK (by repeat constructor) (fun K hK => ?_)|(refine dK (by kernel_rfl) (by repeat constructor) (fun K hK => ?_)))) <;> simp (maxSteps := 2000000) (disch := omega) only [go_sem, ↓reduceIte, Nat.reduceEqDiff, Nat.reduceAdd, Nat.reduceLT, Nat.reduceLeDiff, Nat.reduceSub, tNew, t17, pr_eta, fN, fL, fS, hn, hl2, hs, tBss, hm, tOnc, ho, or0_t, orE_t])|((with_reducible show Awp _ _ (Code.cond _ _ _) _ _); refine aC rfl (fun h => ?_) (fun h => ?_) <;> (try simp only [hsX, reduceCtorEq] at h))|((with_reducible first|refine aK ?_|refine aR ?_); simp only [nx])|((with_reducible refine aE ?_); simp only [nx, ne_eq, not_false_eq_true, Nat.reduceEqDiff, reduceCtorEq]; try ((repeat ((fail_if_success refine hK _ ?_); clear hK K)); refine hK _ ?_; clear hK K))|((with_reducible first|show List.all _ _ = true|show lendOk _ _ = true); rfl)|omega|((with_reducible first|show ¬ _|show _ → _); intro h; first|contradiction|cases h; done|skip)
      all_goals (try (first|refine fK ?_|refine fM ?_; repeat clear hK))
      exact fin_pair (d := tPair) (j := 3) rfl rfl rfl rfl rfl rfl
theorem drRf_ok : Fits Tryz.prog 25 tDrLf := by
  refine ⟨callable_of Tryz.func25 (by kernel_rfl) rfl, ?_⟩
  intro args p out Ho h hp
  unfold tDrLf at h
  split at h <;> cases h
  rename_i b
  refine ⟨acall_by (env_ok (env := [(64, tDrLf)]) (by simp only [fmA, and_true]; exact l17F_ok)) Tryz.func25 rfl rfl rfl rfl rfl ?_, rfl, rfl⟩
  intro hlen c hc hX
  simp only [lensOk, AV.lenOk, true_and, and_true] at hlen
  simp only [Tryz.ntmps25, Tryz.results25, lsA, List.replicate, Nat.reduceAdd, Nat.reduceSub]
  have hl := lfL_len b
  repeat' first | ((with_reducible show aol _ _ _ _ _); first|(refine gF (by rfl) ?_ ?_; focus simp only [go_sem]; done)|(refine gU (by rfl) ?_ ?_; focus simp only [go_sem]; done))|((with_reducible refine hK _ ?_); clear hK K; try simp only [nx])|(with_reducible first|refine aS fun K hK => ?_|refine aB ?_|apply And.intro|exact True.intro)|((first|((with_reducible show aol _ _ _ _ _); try first|(refine gT (by rfl) ?_ ?_; focus simp only [go_sem]; done)|refine gB (by rfl) (by rfl) (fun h => ?_) (fun h => ?_) <;> (try simp only [hsX, reduceCtorEq] at h))|((with_reducible show Awp _ _ (Code.region _ _ _) _ _); first|refine rK (by repeat constructor) (fun K hK => ?_)|(refine dK (by kernel_rfl) (by repeat constructor) (fun K hK => ?_)))) <;> simp (maxSteps := 2000000) (disch := omega) only [go_sem, ↓reduceIte, Nat.reduceEqDiff, Nat.reduceAdd, Nat.reduceLT, Nat.reduceLeDiff, Nat.reduceSub, tDrLf])|((with_reducible show Awp _ _ (Code.cond _ _ _) _ _); refine aC rfl (fun h => ?_) (fun h => ?_) <;> (try simp only [hsX, reduceCtorEq] at h))|((with_reducible first|refine aK ?_|refine aR ?_); simp only [nx])|((with_reducible refine aE ?_); simp only [nx, ne_eq, not_false_eq_true, Nat.reduceEqDiff, reduceCtorEq]; try ((repeat ((fail_if_success refine hK _ ?_); clear hK K)); refine hK _ ?_; clear hK K))|((with_reducible first|show List.all _ _ = true|show lendOk _ _ = true); rfl)|omega|((with_reducible first|show ¬ _|show _ → _); intro h; first|contradiction|cases h; done|skip)
  all_goals (try (first|refine fK ?_|refine fM ?_; repeat clear hK))
  exact fin_pair (d := tPair) (j := 1) rfl rfl rfl rfl rfl rfl
def iiX (b : List Int) : Int := belowX b 17 (r17S b (newV b)) - 1
def tDrIi : Tab
  | [.sl .u8 b] => some (b.length ≤ 1048576, .tu [.ag [.i (drMat b), .own 0], .i (iiX b)], [.row .i64 3 (drMaL b)])
  | _ => none
theorem l17B_ok : Fits Tryz.prog 65 tDrIi := by
  refine ⟨callable_of Tryz.func65 (by kernel_rfl) rfl, ?_⟩
  intro args p out Ho h hp
  unfold tDrIi at h
  split at h <;> cases h
  rename_i b
  refine ⟨acall_by (env_ok2 (env := []) (envM := [(31, tNew), (30, t17), (69, tBel)]) (by simp) (by simp only [fmA, and_true]; exact ⟨new_ok, r17_ok, bel_ok⟩)) Tryz.func65 rfl rfl rfl rfl rfl ?_, rfl, rfl⟩
  intro hlen c hc hX
  simp only [lensOk, AV.lenOk, true_and, and_true] at hlen
  simp only [Tryz.ntmps65, Tryz.results65, lsA, List.replicate, Nat.reduceAdd, Nat.reduceSub]
  have hl := r17L_len b (newV b)
  have fN : r17N b (newV b) = drMat b := rfl
  have fL : r17L b (newV b) = drMaL b := rfl
  obtain ⟨s, hs⟩ : ∃ s, r17S b (newV b) = s := ⟨_, rfl⟩
  have h17 := belowX_bd b (n := 17) (by omega) s
  have fX : belowX b 17 s - 1 = iiX b := by unfold iiX; rw [hs]
  rw [fL] at hl
  repeat' first | ((with_reducible show aol _ _ _ _ _); first|(refine gF (by rfl) ?_ ?_; focus simp only [go_sem]; done)|(refine gU (by rfl) ?_ ?_; focus simp only [go_sem]; done))|((with_reducible refine hK _ ?_); clear hK K; try simp only [nx])|(with_reducible first|refine aS fun K hK => ?_|refine aB ?_|apply And.intro|exact True.intro)|((with_reducible show Awp _ _ (Code.region 3 _ true) _ _); (refine awp_ordersK [[1, 0, 2, 3, 4, 5], [1, 2, 3, 0, 4, 5]] (by kernel_rfl) (by kernel_rfl) (by repeat constructor) (fun K hK => ?_); simp only [Alls, and_true]; (repeat' apply And.intro) <;> (refine ⟨_, by repeat constructor, ?_⟩; simp (config := { maxSteps := 2000000 }) (disch := omega) only [go_sem, ↓reduceIte, Nat.reduceEqDiff, Nat.reduceAdd, Nat.reduceLT, Nat.reduceLeDiff, Nat.reduceSub, tNew, t17, tBel, pr_eta, fN, fL, hs, fX])))|((first|((with_reducible show aol _ _ _ _ _); try first|(refine gT (by rfl) ?_ ?_; focus simp only [go_sem]; done)|refine gB (by rfl) (by rfl) (fun h => ?_) (fun h => ?_) <;> (try simp only [hsX, reduceCtorEq] at h))|((with_reducible show Awp _ _ (Code.region _ _ _) _ _); first|refine rK (by repeat constructor) (fun K hK => ?_)|(refine dK (by kernel_rfl) (by repeat constructor) (fun K hK => ?_)))) <;> simp (maxSteps := 2000000) (disch := omega) only [go_sem, ↓reduceIte, Nat.reduceEqDiff, Nat.reduceAdd, Nat.reduceLT, Nat.reduceLeDiff, Nat.reduceSub, tNew, t17, tBel, pr_eta, fN, fL, hs, fX])|((with_reducible show Awp _ _ (Code.cond _ _ _) _ _); refine aC rfl (fun h => ?_) (fun h => ?_) <;> (try simp only [hsX, reduceCtorEq] at h))|((with_reducible first|refine aK ?_|refine aR ?_); simp only [nx])|((with_reducible refine aE ?_); simp only [nx, ne_eq, not_false_eq_true, Nat.reduceEqDiff, reduceCtorEq]; try ((repeat ((fail_if_success refine hK _ ?_); clear hK K)); refine hK _ ?_; clear hK K))|((with_reducible first|show List.all _ _ = true|show lendOk _ _ = true); rfl)|omega|((with_reducible first|show ¬ _|show _ → _); intro h; first|contradiction|cases h; done|skip)
  all_goals (try (first|refine fK ?_|refine fM ?_; repeat clear hK))
  all_goals exact fin_pairi (d := tPair) (j := 2) rfl rfl rfl rfl rfl rfl rfl
theorem drIi_ok : Fits Tryz.prog 27 tDrIi := by
  refine ⟨callable_of Tryz.func27 (by kernel_rfl) rfl, ?_⟩
  intro args p out Ho h hp
  unfold tDrIi at h
  split at h <;> cases h
  rename_i b
  refine ⟨acall_by (env_ok (env := [(65, tDrIi)]) (by simp only [fmA, and_true]; exact l17B_ok)) Tryz.func27 rfl rfl rfl rfl rfl ?_, rfl, rfl⟩
  intro hlen c hc hX
  simp only [lensOk, AV.lenOk, true_and, and_true] at hlen
  simp only [Tryz.ntmps27, Tryz.results27, lsA, List.replicate, Nat.reduceAdd, Nat.reduceSub]
  have hl := r17L_len b (newV b)
  have fL : r17L b (newV b) = drMaL b := rfl
  rw [fL] at hl
  repeat' first | ((with_reducible show aol _ _ _ _ _); first|(refine gF (by rfl) ?_ ?_; focus simp only [go_sem]; done)|(refine gU (by rfl) ?_ ?_; focus simp only [go_sem]; done))|((with_reducible refine hK _ ?_); clear hK K; try simp only [nx])|(with_reducible first|refine aS fun K hK => ?_|refine aB ?_|apply And.intro|exact True.intro)|((first|((with_reducible show aol _ _ _ _ _); try first|(refine gT (by rfl) ?_ ?_; focus simp only [go_sem]; done)|refine gB (by rfl) (by rfl) (fun h => ?_) (fun h => ?_) <;> (try simp only [hsX, reduceCtorEq] at h))|((with_reducible show Awp _ _ (Code.region _ _ _) _ _); first|refine rK (by repeat constructor) (fun K hK => ?_)|(refine dK (by kernel_rfl) (by repeat constructor) (fun K hK => ?_)))) <;> simp (maxSteps := 2000000) (disch := omega) only [go_sem, ↓reduceIte, Nat.reduceEqDiff, Nat.reduceAdd, Nat.reduceLT, Nat.reduceLeDiff, Nat.reduceSub, tDrIi])|((with_reducible show Awp _ _ (Code.cond _ _ _) _ _); refine aC rfl (fun h => ?_) (fun h => ?_) <;> (try simp only [hsX, reduceCtorEq] at h))|((with_reducible first|refine aK ?_|refine aR ?_); simp only [nx])|((with_reducible refine aE ?_); simp only [nx, ne_eq, not_false_eq_true, Nat.reduceEqDiff, reduceCtorEq]; try ((repeat ((fail_if_success refine hK _ ?_); clear hK K)); refine hK _ ?_; clear hK K))|((with_reducible first|show List.all _ _ = true|show lendOk _ _ = true); rfl)|omega|((with_reducible first|show ¬ _|show _ → _); intro h; first|contradiction|cases h; done|skip)
  all_goals (try (first|refine fK ?_|refine fM ?_; repeat clear hK))
  all_goals exact fin_pairi (d := tPair) (j := 1) rfl rfl rfl rfl rfl rfl rfl
def tHasM : Tab
  | [.sl .i64 l, .i x] => some (True, .b (decide (x ∈ l)), [])
  | _ => none
theorem lawHas_ok : Fits Tryz.prog 24 tHasM := by
  refine ⟨callable_of Tryz.func24 (by kernel_rfl) rfl, ?_⟩
  intro args p out Ho h hp
  unfold tHasM at h
  split at h <;> cases h
  rename_i l x
  refine ⟨acall_by (env_ok (env := []) (by simp)) Tryz.func24 rfl rfl rfl rfl rfl ?_, rfl, rfl⟩
  intro hlen c hc hX
  simp only [lensOk, AV.lenOk, true_and, and_true] at hlen
  simp only [Tryz.ntmps24, Tryz.results24, lsA, List.replicate, Nat.reduceAdd, Nat.reduceSub]
  repeat' first | ((with_reducible show aol _ _ _ _ _); first|(refine gF (by rfl) ?_ ?_; focus simp only [go_sem]; done)|(refine gU (by rfl) ?_ ?_; focus simp only [go_sem]; done))|((with_reducible refine hK _ ?_); clear hK K; try simp only [nx])|(with_reducible first|refine aS fun K hK => ?_|refine aB ?_|apply And.intro|exact True.intro)|((first|((with_reducible show aol _ _ _ _ _); try first|(refine gT (by rfl) ?_ ?_; focus simp only [go_sem]; done)|refine gB (by rfl) (by rfl) (fun h => ?_) (fun h => ?_) <;> (try simp only [hsX, reduceCtorEq] at h))|((with_reducible show Awp _ _ (Code.region _ _ _) _ _); first|refine rK (by repeat constructor) (fun K hK => ?_)|(refine dK (by kernel_rfl) (by repeat constructor) (fun K hK => ?_)))) <;> simp (maxSteps := 2000000) (disch := omega) only [go_sem, ↓reduceIte, Nat.reduceEqDiff, Nat.reduceAdd, Nat.reduceLT, Nat.reduceLeDiff, Nat.reduceSub])|((with_reducible show Awp _ _ (Code.cond _ _ _) _ _); refine aC rfl (fun h => ?_) (fun h => ?_) <;> (try simp only [hsX, reduceCtorEq] at h))|((with_reducible first|refine aK ?_|refine aR ?_); simp only [nx])|((with_reducible refine aE ?_); simp only [nx, ne_eq, not_false_eq_true, Nat.reduceEqDiff, reduceCtorEq]; try ((repeat ((fail_if_success refine hK _ ?_); clear hK K)); refine hK _ ?_; clear hK K))|((with_reducible first|show List.all _ _ = true|show lendOk _ _ = true); rfl)|omega|((with_reducible first|show ¬ _|show _ → _); intro h; first|contradiction|cases h; done|skip)
  all_goals (try (first|refine fK ?_|refine fM ?_; repeat clear hK))
  refine awp_for (fun st (k : Nat) => st.at [0, 1] [(5, .i k)] st.hp) (fun k => k ≤ l.length ∧ ¬ x ∈ l.take k) (fun k => l.length - k) 0 ⟨Nat.zero_le _, by simp⟩ ?_ ?_
  · simp [-List.getD_eq_getElem?_getD, -List.length_take, Le, leFr, ASt.at, keepFr, updAll, upd_zero, upd_succ]
  rintro k ⟨hk, ha⟩
  simp only [ASt.at, keepFr, updAll, upd_zero, upd_succ, lgA, Nat.reduceEqDiff, Nat.reduceAdd, ↓reduceIte, eq_self]
  by_cases hkl : k < l.length
  · by_cases hc : l.getD k 0 = x
    · have hd : decide (x ∈ l) = true := decide_eq_true (by rw [← hc]; exact getD_mem hkl)
      repeat' first | ((with_reducible show aol _ _ _ _ _); first|(refine gF (by rfl) ?_ ?_; focus simp only [go_sem]; done)|(refine gU (by rfl) ?_ ?_; focus simp only [go_sem]; done))|((with_reducible refine hK _ ?_); clear hK K; try simp only [nx])|(with_reducible first|refine aS fun K hK => ?_|refine aB ?_|apply And.intro|exact True.intro)|((first|((with_reducible show aol _ _ _ _ _); try first|(refine gT (by rfl) ?_ ?_; focus simp only [go_sem]; done)|refine gB (by rfl) (by rfl) (fun h => ?_) (fun h => ?_) <;> (try simp only [hsX, reduceCtorEq] at h))|((with_reducible show Awp _ _ (Code.region _ _ _) _ _); first|refine rK (by repeat constructor) (fun K hK => ?_)|(refine dK (by kernel_rfl) (by repeat constructor) (fun K hK => ?_)))) <;> simp (maxSteps := 2000000) (disch := omega) only [go_sem, ↓reduceIte, Nat.reduceEqDiff, Nat.reduceAdd, Nat.reduceLT, Nat.reduceLeDiff, Nat.reduceSub, hc])|((with_reducible show Awp _ _ (Code.cond _ _ _) _ _); refine aC rfl (fun h => ?_) (fun h => ?_) <;> (try simp only [hsX, reduceCtorEq] at h))|((with_reducible first|refine aK ?_|refine aR ?_); simp only [nx])|((with_reducible refine aE ?_); simp only [nx, ne_eq, not_false_eq_true, Nat.reduceEqDiff, reduceCtorEq]; try ((repeat ((fail_if_success refine hK _ ?_); clear hK K)); refine hK _ ?_; clear hK K))|((with_reducible first|show List.all _ _ = true|show lendOk _ _ = true); rfl)|omega|((with_reducible first|show ¬ _|show _ → _); intro h; first|contradiction|cases h; done|skip)
      all_goals (try (first|refine fK ?_|refine fM ?_; repeat clear hK))
      rw [hd]; exact fin_tmp rfl rfl
    · repeat' first | ((with_reducible show aol _ _ _ _ _); first|(refine gF (by rfl) ?_ ?_; focus simp only [go_sem]; done)|(refine gU (by rfl) ?_ ?_; focus simp only [go_sem]; done))|((with_reducible refine hK _ ?_); clear hK K; try simp only [nx])|(with_reducible first|refine aS fun K hK => ?_|refine aB ?_|apply And.intro|exact True.intro)|((first|((with_reducible show aol _ _ _ _ _); try first|(refine gT (by rfl) ?_ ?_; focus simp only [go_sem]; done)|refine gB (by rfl) (by rfl) (fun h => ?_) (fun h => ?_) <;> (try simp only [hsX, reduceCtorEq] at h))|((with_reducible show Awp _ _ (Code.region _ _ _) _ _); first|refine rK (by repeat constructor) (fun K hK => ?_)|(refine dK (by kernel_rfl) (by repeat constructor) (fun K hK => ?_)))) <;> simp (maxSteps := 2000000) (disch := omega) only [go_sem, ↓reduceIte, Nat.reduceEqDiff, Nat.reduceAdd, Nat.reduceLT, Nat.reduceLeDiff, Nat.reduceSub, hc])|((with_reducible show Awp _ _ (Code.cond _ _ _) _ _); refine aC rfl (fun h => ?_) (fun h => ?_) <;> (try simp only [hsX, reduceCtorEq] at h))|((with_reducible first|refine aK ?_|refine aR ?_); simp only [nx])|((with_reducible refine aE ?_); simp only [nx, ne_eq, not_false_eq_true, Nat.reduceEqDiff, reduceCtorEq]; try ((repeat ((fail_if_success refine hK _ ?_); clear hK K)); refine hK _ ?_; clear hK K))|((with_reducible first|show List.all _ _ = true|show lendOk _ _ = true); rfl)|omega|((with_reducible first|show ¬ _|show _ → _); intro h; first|contradiction|cases h; done|skip)
      all_goals (try (first|refine fK ?_|refine fM ?_; repeat clear hK))
      refine ⟨k + 1, ⟨by omega, ?_⟩, by omega, ?_⟩
      · rw [take_succ_getD hkl, List.mem_append, List.mem_singleton]
        rintro (h | h)
        · exact ha h
        · exact hc h.symm
      · simp [-List.getD_eq_getElem?_getD, -List.length_take, Le, leFr, ASt.at, keepFr, updAll, upd_zero, upd_succ]
  · obtain rfl : k = l.length := by omega
    have hd : decide (x ∈ l) = false := decide_eq_false (by rw [List.take_of_length_le (by omega)] at ha; exact ha)
    repeat' first | ((with_reducible show aol _ _ _ _ _); first|(refine gF (by rfl) ?_ ?_; focus simp only [go_sem]; done)|(refine gU (by rfl) ?_ ?_; focus simp only [go_sem]; done))|((with_reducible refine hK _ ?_); clear hK K; try simp only [nx])|(with_reducible first|refine aS fun K hK => ?_|refine aB ?_|apply And.intro|exact True.intro)|((first|((with_reducible show aol _ _ _ _ _); try first|(refine gT (by rfl) ?_ ?_; focus simp only [go_sem]; done)|refine gB (by rfl) (by rfl) (fun h => ?_) (fun h => ?_) <;> (try simp only [hsX, reduceCtorEq] at h))|((with_reducible show Awp _ _ (Code.region _ _ _) _ _); first|refine rK (by repeat constructor) (fun K hK => ?_)|(refine dK (by kernel_rfl) (by repeat constructor) (fun K hK => ?_)))) <;> simp (maxSteps := 2000000) (disch := omega) only [go_sem, ↓reduceIte, Nat.reduceEqDiff, Nat.reduceAdd, Nat.reduceLT, Nat.reduceLeDiff, Nat.reduceSub])|((with_reducible show Awp _ _ (Code.cond _ _ _) _ _); refine aC rfl (fun h => ?_) (fun h => ?_) <;> (try simp only [hsX, reduceCtorEq] at h))|((with_reducible first|refine aK ?_|refine aR ?_); simp only [nx])|((with_reducible refine aE ?_); simp only [nx, ne_eq, not_false_eq_true, Nat.reduceEqDiff, reduceCtorEq]; try ((repeat ((fail_if_success refine hK _ ?_); clear hK K)); refine hK _ ?_; clear hK K))|((with_reducible first|show List.all _ _ = true|show lendOk _ _ = true); rfl)|omega|((with_reducible first|show ¬ _|show _ → _); intro h; first|contradiction|cases h; done|skip)
    all_goals (try (first|refine fK ?_|refine fM ?_; repeat clear hK))
    rw [hd]; exact fin_tmp rfl rfl
end Go.Proofs.YthoionlldmfpiaaGreat
