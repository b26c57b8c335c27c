import Derived.Test.YthoionlldmfpiaaGreatHs
import Derived.Test.YthoionlldmfpiaaGreatT56
set_option linter.unusedSimpArgs false
set_option linter.unusedVariables false
set_option maxHeartbeats 2000000
set_option maxRecDepth 20000
namespace Go.Proofs.YthoionlldmfpiaaGreat
open Go Go.Ab
attribute [local irreducible] aol
attribute [local irreducible] popN
def tL2D : MTab
  | [.bp 0 0, .i m], [.box T [.sl .u8 b, .i i, .i h]] => some ((0 ≤ i ∧ b.length ≤ 1048576) ∧ 0 ≤ m ∧ m ≤ 5, .ag [.i (l2N b m (i.toNat, h)), .own 1],
      [.box T [.sl .u8 b, .i ((l2D b m (i.toNat, h)).2.1 : Int), .i (l2D b m (i.toNat, h)).2.2], .row .i64 3 (l2D b m (i.toNat, h)).1])
  | _, _ => none
theorem l2D_ok : FitsM Tryz.prog 115 tL2D := by
  refine ⟨?_⟩
  intro args L p out Ho h hp
  unfold tL2D at h
  split at h <;> cases h
  rename_i m T b i h
  refine mok_by (env_ok2 (env := [(37, tSize2)]) (envM := [(69, tBel), (91, tOnc), (100, tC2)]) (by simp only [fmA, and_true]; exact size2_ok) (by simp only [fmA, and_true]; exact ⟨bel_ok, onc_ok, c2_ok⟩)) (callable_of Tryz.func115 (by kernel_rfl) rfl) Tryz.func115 rfl rfl rfl rfl rfl (by simp) ?_
  intro hlen c hc hX
  simp only [lensIn, AV.lenIn, AV.lenOk, List.getElem?_cons_zero, List.getElem?_cons_succ, true_and, and_true] at hlen
  simp only [Tryz.ntmps115, Tryz.results115, lsA, List.replicate, Nat.reduceAdd, Nat.reduceSub]
  obtain ⟨⟨hi, hb⟩, hm0, hm5⟩ := hp
  obtain ⟨i, rfl⟩ := Int.eq_ofNat_of_zero_le hi
  rw [Int.toNat_natCast]
  generalize hs : ((i, h) : Nat × Int) = s0
  have e1 : i = s0.1 := by rw [← hs]
  have e2 : h = s0.2 := by rw [← hs]
  subst e1 e2
  have hn : 0 ≤ l2N b m s0 ∧ l2N b m s0 < m + 1 := belowX_bd b (by omega) s0
  have fN : belowX b (m + 1) s0 = l2N b m s0 := rfl
  have fX : belowX b 5 (belowS b (m + 1) s0) = l2X b m s0 := rfl
  have fS : belowS b 5 (belowS b (m + 1) s0) = l2S b m s0 := rfl
  obtain ⟨n, hnn⟩ : ∃ n, l2N b m s0 = n := ⟨_, rfl⟩
  rw [hnn] at hn
  have hsh := ishl_one (n := n) hn.1 (by omega)
  have hpw := pow_nat n.toNat
  have hp6 := pow_le6 (g := n) ⟨hn.1, by omega⟩
  by_cases h0 : l2X b m s0 = 0
  · have eD : l2D b m s0 = rndD b 6 (-1) (l2S b m s0) (2 ^ n.toNat) := by unfold l2D; rw [if_pos h0, hnn]
    repeat' first | ((with_reducible show aol _ _ _ _ _); first|(refine gF (by rfl) ?_ ?_; focus simp only [go_sem]; done)|(refine gU (by rfl) ?_ ?_; focus simp only [go_sem]; done))|((with_reducible refine hK _ ?_); clear hK K; try simp only [nx])|(with_reducible first|refine aS fun K hK => ?_|refine aB ?_|apply And.intro|exact True.intro)|((first|((with_reducible show aol _ _ _ _ _); try first|(refine gT (by rfl) ?_ ?_; focus simp only [go_sem]; done)|refine gB (by rfl) (by rfl) (fun h => ?_) (fun h => ?_) <;> (try simp only [hsX, reduceCtorEq] at h))|((with_reducible show Awp _ _ (Code.region _ _ _) _ _); first|refine rK (by repeat constructor) (fun K hK => ?_)|(refine dK (by kernel_rfl) (by repeat constructor) (fun K hK => ?_)))) <;> simp (maxSteps := 2000000) (disch := omega) only [go_sem, ↓reduceIte, Nat.reduceEqDiff, Nat.reduceAdd, Nat.reduceLT, Nat.reduceLeDiff, Nat.reduceSub, tBel, pr_eta, fN, fX, fS, hnn, h0])|((with_reducible show Awp _ _ (Code.cond _ _ _) _ _); refine aC rfl (fun h => ?_) (fun h => ?_) <;> (try simp only [hsX, reduceCtorEq] at h))|((with_reducible first|refine aK ?_|refine aR ?_); simp only [nx])|((with_reducible refine aE ?_); simp only [nx, ne_eq, not_false_eq_true, Nat.reduceEqDiff, reduceCtorEq]; try ((repeat ((fail_if_success refine hK _ ?_); clear hK K)); refine hK _ ?_; clear hK K))|((with_reducible first|show List.all _ _ = true|show lendOk _ _ = true); rfl)|omega|((with_reducible first|show ¬ _|show _ → _); intro h; first|contradiction|cases h; done|skip)
    all_goals (try (first|refine fK ?_|refine fM ?_; repeat clear hK))
    refine awp_forR 1 hX (fun st (k : Nat) => st.at [0, 4, 5] [(6, .own 2), (7, .i k)] [.box T [.sl .u8 b, .i ((rndD b 6 (-1) (l2S b m s0) k).2.1 : Int), .i (rndD b 6 (-1) (l2S b m s0) k).2.2], .box 26 [.i 0, .nl], .row .i64 3 (rndD b 6 (-1) (l2S b m s0) k).1]) (fun k => k ≤ 2 ^ n.toNat) (fun k => 2 ^ n.toNat - k) 0 (Nat.zero_le _) ?_ ?_
    · exact ⟨[0, 1, 2], rfl, rfl, by simp [-List.getD_eq_getElem?_getD, -List.length_take, gdA, leFr, ASt.at, keepFr, updAll, upd_zero, upd_succ, AV.rnb, AV.rnb0, rndD], by simp [-List.getD_eq_getElem?_getD, gdA, ASt.at, AO.rnb, AV.rnb0, upd_k0, upd_k1, upd_k2, upd_k3, rndD], rfl, rfl⟩
    rintro k hk
    simp only [ASt.at, keepFr, updAll, upd_zero, upd_succ, lgA, Nat.reduceEqDiff, Nat.reduceAdd, ↓reduceIte, eq_self]
    have hrl := rndD_len b 6 (-1) (l2S b m s0) k
    have hbd := belowX_bd b (n := 6) (by omega) (rndD b 6 (-1) (l2S b m s0) k).2
    have hsub : belowX b 6 (rndD b 6 (-1) (l2S b m s0) k).2 - 1 = belowX b 6 (rndD b 6 (-1) (l2S b m s0) k).2 + -1 := by omega
    by_cases hkl : k < 2 ^ n.toNat
    · repeat' first | ((with_reducible show aol _ _ _ _ _); first|(refine gF (by rfl) ?_ ?_; focus simp only [go_sem]; done)|(refine gU (by rfl) ?_ ?_; focus simp only [go_sem]; done))|((with_reducible refine hK _ ?_); clear hK K; try simp only [nx])|(with_reducible first|refine aS fun K hK => ?_|refine aB ?_|apply And.intro|exact True.intro)|((first|((with_reducible show aol _ _ _ _ _); try first|(refine gT (by rfl) ?_ ?_; focus simp only [go_sem]; done)|refine gB (by rfl) (by rfl) (fun h => ?_) (fun h => ?_) <;> (try simp only [hsX, reduceCtorEq] at h))|((with_reducible show Awp _ _ (Code.region _ _ _) _ _); first|refine rK (by repeat constructor) (fun K hK => ?_)|(refine dK (by kernel_rfl) (by repeat constructor) (fun K hK => ?_)))) <;> simp (maxSteps := 2000000) (disch := omega) only [go_sem, ↓reduceIte, Nat.reduceEqDiff, Nat.reduceAdd, Nat.reduceLT, Nat.reduceLeDiff, Nat.reduceSub, tBel, pr_eta, hsh, hpw, hsub])|((with_reducible show Awp _ _ (Code.cond _ _ _) _ _); refine aC rfl (fun h => ?_) (fun h => ?_) <;> (try simp only [hsX, reduceCtorEq] at h))|((with_reducible first|refine aK ?_|refine aR ?_); simp only [nx])|((with_reducible refine aE ?_); simp only [nx, ne_eq, not_false_eq_true, Nat.reduceEqDiff, reduceCtorEq]; try ((repeat ((fail_if_success refine hK _ ?_); clear hK K)); refine hK _ ?_; clear hK K))|((with_reducible first|show List.all _ _ = true|show lendOk _ _ = true); rfl)|omega|((with_reducible first|show ¬ _|show _ → _); intro h; first|contradiction|cases h; done|skip)
      all_goals (try (first|refine fK ?_|refine fM ?_; repeat clear hK))
      refine ⟨k + 1, by omega, by omega, ?_⟩
      exact ⟨[0, 1, 4], rfl, rfl, by simp [-List.getD_eq_getElem?_getD, -List.length_take, gdA, leFr, ASt.at, keepFr, updAll, upd_zero, upd_succ, AV.rnb, AV.rnb0, rndD], by simp [-List.getD_eq_getElem?_getD, gdA, ASt.at, AO.rnb, AV.rnb0, upd_k0, upd_k1, upd_k2, upd_k3, rndD], rfl, rfl⟩
    · obtain rfl : k = 2 ^ n.toNat := by omega
      repeat' first | ((with_reducible show aol _ _ _ _ _); first|(refine gF (by rfl) ?_ ?_; focus simp only [go_sem]; done)|(refine gU (by rfl) ?_ ?_; focus simp only [go_sem]; done))|((with_reducible refine hK _ ?_); clear hK K; try simp only [nx])|(with_reducible first|refine aS fun K hK => ?_|refine aB ?_|apply And.intro|exact True.intro)|((first|((with_reducible show aol _ _ _ _ _); try first|(refine gT (by rfl) ?_ ?_; focus simp only [go_sem]; done)|refine gB (by rfl) (by rfl) (fun h => ?_) (fun h => ?_) <;> (try simp only [hsX, reduceCtorEq] at h))|((with_reducible show Awp _ _ (Code.region _ _ _) _ _); first|refine rK (by repeat constructor) (fun K hK => ?_)|(refine dK (by kernel_rfl) (by repeat constructor) (fun K hK => ?_)))) <;> simp (maxSteps := 2000000) (disch := omega) only [go_sem, ↓reduceIte, Nat.reduceEqDiff, Nat.reduceAdd, Nat.reduceLT, Nat.reduceLeDiff, Nat.reduceSub, hsh, hpw])|((with_reducible show Awp _ _ (Code.cond _ _ _) _ _); refine aC rfl (fun h => ?_) (fun h => ?_) <;> (try simp only [hsX, reduceCtorEq] at h))|((with_reducible first|refine aK ?_|refine aR ?_); simp only [nx])|((with_reducible refine aE ?_); simp only [nx, ne_eq, not_false_eq_true, Nat.reduceEqDiff, reduceCtorEq]; try ((repeat ((fail_if_success refine hK _ ?_); clear hK K)); refine hK _ ?_; clear hK K))|((with_reducible first|show List.all _ _ = true|show lendOk _ _ = true); rfl)|omega|((with_reducible first|show ¬ _|show _ → _); intro h; first|contradiction|cases h; done|skip)
      all_goals (try (first|refine fK ?_|refine fM ?_; repeat clear hK))
      rw [eD, hnn]
      exact finm_pairS (d := tPair) (j := 2) (b := 1) [0, 2] rfl rfl rfl rfl rfl rfl rfl rfl rfl
  · by_cases h1 : l2X b m s0 = 1
    · have eD : l2D b m s0 = (l2EndV b n (topD (belowX b (n + 1) (l2S b m s0)) (2 ^ n.toNat)) (belowS b (n + 1) (l2S b m s0)), l2EndS b n (belowS b (n + 1) (l2S b m s0))) := by
        unfold l2D; rw [if_neg h0, if_pos h1, hnn]
      obtain ⟨top, htop⟩ : ∃ top, belowX b (n + 1) (l2S b m s0) = top := ⟨_, rfl⟩
      have htb := belowX_bd b (n := n + 1) (by omega) (l2S b m s0)
      rw [htop] at htb eD
      rw [eD, hnn]
      repeat' first | ((with_reducible show aol _ _ _ _ _); first|(refine gF (by rfl) ?_ ?_; focus simp only [go_sem]; done)|(refine gU (by rfl) ?_ ?_; focus simp only [go_sem]; done))|((with_reducible refine hK _ ?_); clear hK K; try simp only [nx])|((with_reducible show Awp _ _ (Code.seq (Code.seq (Code.region 17 _ _) _) _) _ _); refine halt ?_)|((with_reducible show Awp _ _ (Code.seq (Code.region 17 _ _) _) _ _); refine halt ?_)|(with_reducible first|refine aS fun K hK => ?_|refine aB ?_|apply And.intro|exact True.intro)|((first|((with_reducible show aol _ _ _ _ _); try first|(refine gT (by rfl) ?_ ?_; focus simp only [go_sem]; done)|refine gB (by rfl) (by rfl) (fun h => ?_) (fun h => ?_) <;> (try simp only [hsX, reduceCtorEq] at h))|((with_reducible show Awp _ _ (Code.region _ _ _) _ _); first|refine rK (by repeat constructor) (fun K hK => ?_)|(refine dK (by kernel_rfl) (by repeat constructor) (fun K hK => ?_)))) <;> simp (maxSteps := 2000000) (disch := omega) only [go_sem, ↓reduceIte, Nat.reduceEqDiff, Nat.reduceAdd, Nat.reduceLT, Nat.reduceLeDiff, Nat.reduceSub, tBel, pr_eta, fN, fX, fS, hnn, h1, htop])|((with_reducible show Awp _ _ (Code.cond _ _ _) _ _); refine aC rfl (fun h => ?_) (fun h => ?_) <;> (try simp only [hsX, reduceCtorEq] at h))|((with_reducible first|refine aK ?_|refine aR ?_); simp only [nx])|((with_reducible refine aE ?_); simp only [nx, ne_eq, not_false_eq_true, Nat.reduceEqDiff, reduceCtorEq]; try ((repeat ((fail_if_success refine hK _ ?_); clear hK K)); refine hK _ ?_; clear hK K))|((with_reducible first|show List.all _ _ = true|show lendOk _ _ = true); rfl)|omega|((with_reducible first|show ¬ _|show _ → _); intro h; first|contradiction|cases h; done|skip)
      all_goals (try (first|refine fK ?_|refine fM ?_; repeat clear hK))
      refine awp_forR 1 hX (fun st (k : Nat) => st.at [0, 4, 5, 8] [(6, .own 2), (9, .i k)] [.box T [.sl .u8 b, .i ((belowS b (n + 1) (l2S b m s0)).1 : Int), .i (belowS b (n + 1) (l2S b m s0)).2], .box 26 [.i 0, .nl], .row .i64 3 (topD top k)]) (fun k => k ≤ 2 ^ n.toNat) (fun k => 2 ^ n.toNat - k) 0 (Nat.zero_le _) ?_ ?_
      · exact ⟨[0, 1, 2], rfl, rfl, by simp [-List.getD_eq_getElem?_getD, -List.length_take, gdA, leFr, ASt.at, keepFr, updAll, upd_zero, upd_succ, AV.rnb, AV.rnb0, topD], by simp [-List.getD_eq_getElem?_getD, gdA, ASt.at, AO.rnb, AV.rnb0, upd_k0, upd_k1, upd_k2, upd_k3, topD], rfl, rfl⟩
      rintro k hk
      simp only [ASt.at, keepFr, updAll, upd_zero, upd_succ, lgA, Nat.reduceEqDiff, Nat.reduceAdd, ↓reduceIte, eq_self]
      have htl := topD_len top k
      have tn : ((k : Int)).toNat = k := Int.toNat_natCast k
      by_cases hkl : k < 2 ^ n.toNat
      · repeat' first | ((with_reducible show aol _ _ _ _ _); first|(refine gF (by rfl) ?_ ?_; focus simp only [go_sem]; done)|(refine gU (by rfl) ?_ ?_; focus simp only [go_sem]; done))|((with_reducible refine hK _ ?_); clear hK K; try simp only [nx])|((with_reducible show Awp _ _ (Code.seq (Code.seq (Code.region 17 _ _) _) _) _ _); refine halt ?_)|((with_reducible show Awp _ _ (Code.seq (Code.region 17 _ _) _) _ _); refine halt ?_)|(with_reducible first|refine aS fun K hK => ?_|refine aB ?_|apply And.intro|exact True.intro)|((first|((with_reducible show aol _ _ _ _ _); try first|(refine gT (by rfl) ?_ ?_; focus simp only [go_sem]; done)|refine gB (by rfl) (by rfl) (fun h => ?_) (fun h => ?_) <;> (try simp only [hsX, reduceCtorEq] at h))|((with_reducible show Awp _ _ (Code.region _ _ _) _ _); first|refine rK (by repeat constructor) (fun K hK => ?_)|(refine dK (by kernel_rfl) (by repeat constructor) (fun K hK => ?_)))) <;> simp (maxSteps := 2000000) (disch := omega) only [go_sem, ↓reduceIte, Nat.reduceEqDiff, Nat.reduceAdd, Nat.reduceLT, Nat.reduceLeDiff, Nat.reduceSub, tSize2, pr_eta, hsh, hpw, tn])|((with_reducible show Awp _ _ (Code.cond _ _ _) _ _); refine aC rfl (fun h => ?_) (fun h => ?_) <;> (try simp only [hsX, reduceCtorEq] at h))|((with_reducible first|refine aK ?_|refine aR ?_); simp only [nx])|((with_reducible refine aE ?_); simp only [nx, ne_eq, not_false_eq_true, Nat.reduceEqDiff, reduceCtorEq]; try ((repeat ((fail_if_success refine hK _ ?_); clear hK K)); refine hK _ ?_; clear hK K))|((with_reducible first|show List.all _ _ = true|show lendOk _ _ = true); rfl)|omega|((with_reducible first|show ¬ _|show _ → _); intro h; first|contradiction|cases h; done|skip)
        all_goals (try (first|refine fK ?_|refine fM ?_; repeat clear hK))
        refine ⟨k + 1, by omega, by omega, ?_⟩
        exact ⟨[0, 1, 4], rfl, rfl, by simp [-List.getD_eq_getElem?_getD, -List.length_take, gdA, leFr, ASt.at, keepFr, updAll, upd_zero, upd_succ, AV.rnb, AV.rnb0, topD], by simp [-List.getD_eq_getElem?_getD, gdA, ASt.at, AO.rnb, AV.rnb0, upd_k0, upd_k1, upd_k2, upd_k3, topD], rfl, rfl⟩
      · obtain rfl : k = 2 ^ n.toNat := by omega
        repeat' first | ((with_reducible show aol _ _ _ _ _); first|(refine gF (by rfl) ?_ ?_; focus simp only [go_sem]; done)|(refine gU (by rfl) ?_ ?_; focus simp only [go_sem]; done))|((with_reducible refine hK _ ?_); clear hK K; try simp only [nx])|((with_reducible show Awp _ _ (Code.seq (Code.seq (Code.region 17 _ _) _) _) _ _); refine halt ?_)|((with_reducible show Awp _ _ (Code.seq (Code.region 17 _ _) _) _ _); refine halt ?_)|(with_reducible first|refine aS fun K hK => ?_|refine aB ?_|apply And.intro|exact True.intro)|((first|((with_reducible show aol _ _ _ _ _); try first|(refine gT (by rfl) ?_ ?_; focus simp only [go_sem]; done)|refine gB (by rfl) (by rfl) (fun h => ?_) (fun h => ?_) <;> (try simp only [hsX, reduceCtorEq] at h))|((with_reducible show Awp _ _ (Code.region _ _ _) _ _); first|refine rK (by repeat constructor) (fun K hK => ?_)|(refine dK (by kernel_rfl) (by repeat constructor) (fun K hK => ?_)))) <;> simp (maxSteps := 2000000) (disch := omega) only [go_sem, ↓reduceIte, Nat.reduceEqDiff, Nat.reduceAdd, Nat.reduceLT, Nat.reduceLeDiff, Nat.reduceSub, hsh, hpw])|((with_reducible show Awp _ _ (Code.cond _ _ _) _ _); refine aC rfl (fun h => ?_) (fun h => ?_) <;> (try simp only [hsX, reduceCtorEq] at h))|((with_reducible first|refine aK ?_|refine aR ?_); simp only [nx])|((with_reducible refine aE ?_); simp only [nx, ne_eq, not_false_eq_true, Nat.reduceEqDiff, reduceCtorEq]; try ((repeat ((fail_if_success refine hK _ ?_); clear hK K)); refine hK _ ?_; clear hK K))|((with_reducible first|show List.all _ _ = true|show lendOk _ _ = true); rfl)|omega|((with_reducible first|show ¬ _|show _ → _); intro h; first|contradiction|cases h; done|skip)
        all_goals (try (first|refine fK ?_|refine fM ?_; repeat clear hK))
        refine halted (awp_ler 1 hX ?_ (l2P (T := T) (b := b) (v := topD top (2 ^ n.toNat)) (n := n) (s := belowS b (n + 1) (l2S b m s0)) hb hn.1 (by omega) (topD_len ..) hc hX))
        exact ⟨[0, 1, 2], rfl, rfl, by simp [-List.getD_eq_getElem?_getD, -List.length_take, gdA, leFr, ASt.at, keepFr, updAll, upd_zero, upd_succ, AV.rnb, AV.rnb0, frOf, List.replicate, Tryz.ntmps115], by simp [-List.getD_eq_getElem?_getD, gdA, ASt.at, AO.rnb, AV.rnb0, upd_k0, upd_k1, upd_k2, upd_k3, frOf, List.replicate, Tryz.ntmps115], rfl, rfl⟩
    · have eD : l2D b m s0 = (l2EndV b n (c2R b n (l2S b m s0)) (c2A b n (l2S b m s0)).2, l2EndS b n (c2A b n (l2S b m s0)).2) := by
        unfold l2D; rw [if_neg h0, if_neg h1, hnn]
      rw [eD, hnn]
      repeat' first | ((with_reducible show aol _ _ _ _ _); first|(refine gF (by rfl) ?_ ?_; focus simp only [go_sem]; done)|(refine gU (by rfl) ?_ ?_; focus simp only [go_sem]; done))|((with_reducible refine hK _ ?_); clear hK K; try simp only [nx])|((with_reducible show Awp _ _ (Code.seq (Code.seq (Code.region 17 _ _) _) _) _ _); refine halt ?_)|((with_reducible show Awp _ _ (Code.seq (Code.region 17 _ _) _) _ _); refine halt ?_)|(with_reducible first|refine aS fun K hK => ?_|refine aB ?_|apply And.intro|exact True.intro)|((first|((with_reducible show aol _ _ _ _ _); try first|(refine gT (by rfl) ?_ ?_; focus simp only [go_sem]; done)|refine gB (by rfl) (by rfl) (fun h => ?_) (fun h => ?_) <;> (try simp only [hsX, reduceCtorEq] at h))|((with_reducible show Awp _ _ (Code.region _ _ _) _ _); first|refine rK (by repeat constructor) (fun K hK => ?_)|(refine dK (by kernel_rfl) (by repeat constructor) (fun K hK => ?_)))) <;> simp (maxSteps := 2000000) (disch := omega) only [go_sem, ↓reduceIte, Nat.reduceEqDiff, Nat.reduceAdd, Nat.reduceLT, Nat.reduceLeDiff, Nat.reduceSub, tBel, tC2, pr_eta, fN, fX, fS, hnn])|((with_reducible show Awp _ _ (Code.cond _ _ _) _ _); refine aC rfl (fun h => ?_) (fun h => ?_) <;> (try simp only [hsX, reduceCtorEq] at h))|((with_reducible first|refine aK ?_|refine aR ?_); simp only [nx])|((with_reducible refine aE ?_); simp only [nx, ne_eq, not_false_eq_true, Nat.reduceEqDiff, reduceCtorEq]; try ((repeat ((fail_if_success refine hK _ ?_); clear hK K)); refine hK _ ?_; clear hK K))|((with_reducible first|show List.all _ _ = true|show lendOk _ _ = true); rfl)|omega|((with_reducible first|show ¬ _|show _ → _); intro h; first|contradiction|cases h; done|skip)
      all_goals (try (first|refine fK ?_|refine fM ?_; repeat clear hK))
      refine halted (awp_ler 1 hX ?_ (l2P (T := T) (b := b) (v := c2R b n (l2S b m s0)) (n := n) (s := (c2A b n (l2S b m s0)).2) hb hn.1 (by omega) (c2V_len ..) hc hX))
      exact ⟨[0, 1, 3], rfl, rfl, by simp [-List.getD_eq_getElem?_getD, -List.length_take, gdA, leFr, ASt.at, keepFr, updAll, upd_zero, upd_succ, AV.rnb, AV.rnb0, frOf, List.replicate, Tryz.ntmps115], by simp [-List.getD_eq_getElem?_getD, gdA, ASt.at, AO.rnb, AV.rnb0, upd_k0, upd_k1, upd_k2, upd_k3, frOf, List.replicate, Tryz.ntmps115], rfl, rfl⟩
end Go.Proofs.YthoionlldmfpiaaGreat
