import Derived.Test.YthoionlldmfpiaaGreatT92
import Derived.Test.YthoionlldmfpiaaGreatHs
import Derived.Test.YthoionlldmfpiaaGreatT63
set_option linter.unusedSimpArgs false
set_option linter.unusedVariables false
set_option maxHeartbeats 2000000
set_option maxRecDepth 20000
namespace Go.Proofs.YthoionlldmfpiaaGreat
open Go Go.Ab
attribute [local irreducible] aol
attribute [local irreducible] popN
def eyV (w x : List Int) : Nat → Int
  | 0 => 0
  | j + 1 => eyV w x j + w.getD (x.getD j 0).toNat 0
theorem eyV_app {w x y : List Int} : ∀ {k : Nat}, k ≤ x.length → eyV w (x ++ y) k = eyV w x k
  | 0, _ => rfl
  | k + 1, hk => by
    have ih := eyV_app (w := w) (x := x) (y := y) (k := k) (by omega)
    show eyV w (x ++ y) k + w.getD ((x ++ y).getD k 0).toNat 0 = eyV w x k + w.getD (x.getD k 0).toNat 0
    rw [ih, List.getD_eq_getElem?_getD (l := x ++ y), List.getElem?_append_left (by omega), ← List.getD_eq_getElem?_getD]
theorem eyV_el (w : List Int) (s : Nat) : ∀ k, eyV w (elL s k) (elL s k).length = wV w s k
  | 0 => rfl
  | k + 1 => by
    have ih := eyV_el w s k
    cases hb : Nat.testBit s k with
    | true =>
      rw [elL_yes hb, wV_1 hb, List.length_append, List.length_singleton]
      show eyV w (elL s k ++ [(k : Int)]) (elL s k).length + w.getD ((elL s k ++ [(k : Int)]).getD (elL s k).length 0).toNat 0 = _
      rw [eyV_app (Nat.le_refl _), ih]
      congr 1
      rw [List.getD_eq_getElem?_getD (l := elL s k ++ _), List.getElem?_append_right (Nat.le_refl _), Nat.sub_self]
      rfl
    | false => rw [elL_no hb, wV_0 hb]; exact ih
theorem wV_six {w : List Int} {s n : Nat} (hs : s < 2 ^ n) : ∀ k, n ≤ k → wV w s k = wV w s n
  | 0, h => by obtain rfl : n = 0 := by omega
               rfl
  | k + 1, h => by
    by_cases e : n = k + 1
    · rw [e]
    · rw [wV_0 (bit_hi hs (by omega)), wV_six hs k (by omega)]
theorem eyV_bd {w x : List Int} (h : (w.all fun x => inR x (-1000) 1000) = true) : ∀ k : Nat, -1000 * (k : Int) ≤ eyV w x k ∧ eyV w x k ≤ 1000 * (k : Int)
  | 0 => by unfold eyV; omega
  | k + 1 => by
    have h1 := eyV_bd (x := x) h k
    have h2 := getD_bd h (x.getD k 0).toNat
    unfold eyV; omega
theorem elL_at {s k j : Nat} (h : j < (elL s k).length) : 0 ≤ (elL s k).getD j 0 ∧ ((elL s k).getD j 0).toNat < k ∧ Nat.testBit s ((elL s k).getD j 0).toNat = true := by
  obtain ⟨e, h1, h2, h3⟩ := mem_elL.1 (getD_mem h)
  rw [h3, Int.toNat_natCast]
  exact ⟨by omega, h1, h2⟩
theorem mtrP3 {b : List Int} (hb : b.length ≤ 1048576) {c : Cx} (hc : c.P = Tryz.prog) (hX : ∀ j x, c.L j = some x → j < 0) :
    Awp c (mk Γ [(4, tBig), (5, tDr17), (6, tBss), (7, tBss), (8, tEqF), (9, tIsMat), (10, tDr), (11, tDr), (12, tCi), (13, tCi), (14, tEqF), (15, tRfb), (26, tRfb), (16, tCp), (17, tBas), (28, tBas), (18, tInd), (29, tInd), (19, tVal), (20, tElOf), (21, tDrHb), (22, tHb), (23, tHb), (24, tHasM), (25, tDrLf), (27, tDrIi)]) (restN 17 (Option.getD Tryz.f3.body .ret)) (Fin (mk Γ [(4, tBig), (5, tDr17), (6, tBss), (7, tBss), (8, tEqF), (9, tIsMat), (10, tDr), (11, tDr), (12, tCi), (13, tCi), (14, tEqF), (15, tRfb), (26, tRfb), (16, tCp), (17, tBas), (28, tBas), (18, tInd), (29, tInd), (19, tVal), (20, tElOf), (21, tDrHb), (22, tHb), (23, tHb), (24, tHasM), (25, tDrLf), (27, tDrIi)]) Tryz.f3.results.toList (.b true) []) ⟨frOf Tryz.f3.ntmps [(0, .sl .u8 b)], []⟩ := by
  refine awp_rest (fn := Tryz.f3) rfl (by repeat constructor) ?_
  simp only [Tryz.ntmps3, Tryz.results3, frOf, List.replicate, updAll, upd_zero, upd_succ]
  obtain ⟨g, hg⟩ : ∃ g, lfG b = g := ⟨_, rfl⟩
  obtain ⟨m, hm⟩ : ∃ m, lfL b = m := ⟨_, rfl⟩
  cases hok : okRb g m with
  | false =>
    repeat' first | ((with_reducible show aol _ _ _ _ _); first|(refine gF (by rfl) ?_ ?_; focus simp only [go_sem]; done)|(refine gU (by rfl) ?_ ?_; focus simp only [go_sem]; done))|((with_reducible refine hK _ ?_); clear hK K; try simp only [nx])|(with_reducible first|refine aS fun K hK => ?_|refine aB ?_|apply And.intro|exact True.intro)|((first|((with_reducible show aol _ _ _ _ _); try first|(refine gT (by rfl) ?_ ?_; focus simp only [go_sem]; done)|refine gB (by rfl) (by rfl) (fun h => ?_) (fun h => ?_) <;> (try simp only [hsX, reduceCtorEq] at h))|((with_reducible show Awp _ _ (Code.region _ _ _) _ _); first|refine rK (by repeat constructor) (fun K hK => ?_)|(refine dK (by kernel_rfl) (by repeat constructor) (fun K hK => ?_)))) <;> simp (maxSteps := 2000000) (disch := omega) only [go_sem, ↓reduceIte, Nat.reduceEqDiff, Nat.reduceAdd, Nat.reduceLT, Nat.reduceLeDiff, Nat.reduceSub, tDrLf, tRfb, tDrIi, tEqF, tBas, tInd, hg, hm, hok, orE_f, Bool.and_self, beq_self_eq_true])|((with_reducible show Awp _ _ (Code.cond _ _ _) _ _); refine aC rfl (fun h => ?_) (fun h => ?_) <;> (try simp only [hsX, reduceCtorEq] at h))|((with_reducible first|refine aK ?_|refine aR ?_); simp only [nx])|((with_reducible refine aE ?_); simp only [nx, ne_eq, not_false_eq_true, Nat.reduceEqDiff, reduceCtorEq]; try ((repeat ((fail_if_success refine hK _ ?_); clear hK K)); refine hK _ ?_; clear hK K))|((with_reducible first|show List.all _ _ = true|show lendOk _ _ = true); rfl)|omega|((with_reducible first|show ¬ _|show _ → _); intro h; first|contradiction|cases h; done|skip)
    all_goals (try (first|refine fK ?_|refine fM ?_; repeat clear hK))
    all_goals exact fin_tmp rfl rfl
  | true =>
    have hok' := hok
    unfold okRb at hok'
    rw [Bool.and_eq_true, decide_eq_true_eq] at hok'
    have hmat := rb_mat hok'.1 hok'.2
    have eL : mkL (rbF m) (2 ^ g.toNat) = rbL g m := rfl
    repeat' first | ((with_reducible show aol _ _ _ _ _); first|(refine gF (by rfl) ?_ ?_; focus simp only [go_sem]; done)|(refine gU (by rfl) ?_ ?_; focus simp only [go_sem]; done))|((with_reducible refine hK _ ?_); clear hK K; try simp only [nx])|(with_reducible first|refine aS fun K hK => ?_|refine aB ?_|apply And.intro|exact True.intro)|((first|((with_reducible show aol _ _ _ _ _); try first|(refine gT (by rfl) ?_ ?_; focus simp only [go_sem]; done)|refine gB (by rfl) (by rfl) (fun h => ?_) (fun h => ?_) <;> (try simp only [hsX, reduceCtorEq] at h))|((with_reducible show Awp _ _ (Code.region _ _ _) _ _); first|refine rK (by repeat constructor) (fun K hK => ?_)|(refine dK (by kernel_rfl) (by repeat constructor) (fun K hK => ?_)))) <;> simp (maxSteps := 2000000) (disch := omega) only [go_sem, ↓reduceIte, Nat.reduceEqDiff, Nat.reduceAdd, Nat.reduceLT, Nat.reduceLeDiff, Nat.reduceSub, tDrLf, tRfb, tDrIi, tEqF, tBas, tInd, tIsMat, hg, hm, hok, eL, hmat, or0_t, orE_t, Bool.and_self, beq_self_eq_true])|((with_reducible show Awp _ _ (Code.cond _ _ _) _ _); refine aC rfl (fun h => ?_) (fun h => ?_) <;> (try simp only [hsX, reduceCtorEq] at h))|((with_reducible first|refine aK ?_|refine aR ?_); simp only [nx])|((with_reducible refine aE ?_); simp only [nx, ne_eq, not_false_eq_true, Nat.reduceEqDiff, reduceCtorEq]; try ((repeat ((fail_if_success refine hK _ ?_); clear hK K)); refine hK _ ?_; clear hK K))|((with_reducible first|show List.all _ _ = true|show lendOk _ _ = true); rfl)|omega|((with_reducible first|show ¬ _|show _ → _); intro h; first|contradiction|cases h; done|skip)
    all_goals (try (first|refine fK ?_|refine fM ?_; repeat clear hK))
    all_goals exact fin_tmp rfl rfl
theorem mtrP2 {b : List Int} (hb : b.length ≤ 1048576) {c : Cx} (hc : c.P = Tryz.prog) (hX : ∀ j x, c.L j = some x → j < 0) :
    Awp c (mk Γ [(4, tBig), (5, tDr17), (6, tBss), (7, tBss), (8, tEqF), (9, tIsMat), (10, tDr), (11, tDr), (12, tCi), (13, tCi), (14, tEqF), (15, tRfb), (26, tRfb), (16, tCp), (17, tBas), (28, tBas), (18, tInd), (29, tInd), (19, tVal), (20, tElOf), (21, tDrHb), (22, tHb), (23, tHb), (24, tHasM), (25, tDrLf), (27, tDrIi)]) (restN 12 (Option.getD Tryz.f3.body .ret)) (Fin (mk Γ [(4, tBig), (5, tDr17), (6, tBss), (7, tBss), (8, tEqF), (9, tIsMat), (10, tDr), (11, tDr), (12, tCi), (13, tCi), (14, tEqF), (15, tRfb), (26, tRfb), (16, tCp), (17, tBas), (28, tBas), (18, tInd), (29, tInd), (19, tVal), (20, tElOf), (21, tDrHb), (22, tHb), (23, tHb), (24, tHasM), (25, tDrLf), (27, tDrIi)]) Tryz.f3.results.toList (.b true) []) ⟨frOf Tryz.f3.ntmps [(0, .sl .u8 b)], []⟩ := by
  refine awp_rest (fn := Tryz.f3) rfl (by repeat constructor) ?_
  simp only [Tryz.ntmps3, Tryz.results3, frOf, List.replicate, updAll, upd_zero, upd_succ]
  obtain ⟨n, hn⟩ : ∃ n, drMat b = n := ⟨_, rfl⟩
  obtain ⟨l, hl⟩ : ∃ l, drMaL b = l := ⟨_, rfl⟩
  obtain ⟨w, hw⟩ : ∃ w, hbW b = w := ⟨_, rfl⟩
  cases hok : hbOk n l w with
  | false =>
    have hif1 : (if hbOk n l w = true then (hbS l w : Int) else 0) = 0 := if_neg (by rw [hok]; decide)
    have hif2 : (if hbOk n l w = true then hbN l w else 0) = 0 := if_neg (by rw [hok]; decide)
    repeat' first | ((with_reducible show aol _ _ _ _ _); first|(refine gF (by rfl) ?_ ?_; focus simp only [go_sem]; done)|(refine gU (by rfl) ?_ ?_; focus simp only [go_sem]; done))|((with_reducible refine hK _ ?_); clear hK K; try simp only [nx])|((with_reducible show Awp _ _ (Code.seq (Code.seq (Code.region 47 _ _) _) _) _ _); refine halt ?_)|((with_reducible show Awp _ _ (Code.seq (Code.region 47 _ _) _) _ _); refine halt ?_)|(with_reducible first|refine aS fun K hK => ?_|refine aB ?_|apply And.intro|exact True.intro)|((first|((with_reducible show aol _ _ _ _ _); try first|(refine gT (by rfl) ?_ ?_; focus simp only [go_sem]; done)|refine gB (by rfl) (by rfl) (fun h => ?_) (fun h => ?_) <;> (try simp only [hsX, reduceCtorEq] at h))|((with_reducible show Awp _ _ (Code.region _ _ _) _ _); first|refine rK (by repeat constructor) (fun K hK => ?_)|(refine dK (by kernel_rfl) (by repeat constructor) (fun K hK => ?_)))) <;> simp (maxSteps := 2000000) (disch := omega) only [go_sem, ↓reduceIte, Nat.reduceEqDiff, Nat.reduceAdd, Nat.reduceLT, Nat.reduceLeDiff, Nat.reduceSub, tDrHb, after_row2, tHb, hn, hl, hw, hif1, hif2, hok, Bool.and_self])|((with_reducible show Awp _ _ (Code.cond _ _ _) _ _); refine aC rfl (fun h => ?_) (fun h => ?_) <;> (try simp only [hsX, reduceCtorEq] at h))|((with_reducible first|refine aK ?_|refine aR ?_); simp only [nx])|((with_reducible refine aE ?_); simp only [nx, ne_eq, not_false_eq_true, Nat.reduceEqDiff, reduceCtorEq]; try ((repeat ((fail_if_success refine hK _ ?_); clear hK K)); refine hK _ ?_; clear hK K))|((with_reducible first|show List.all _ _ = true|show lendOk _ _ = true); rfl)|omega|((with_reducible first|show ¬ _|show _ → _); intro h; first|contradiction|cases h; done|skip)
    all_goals (try (first|refine fK ?_|refine fM ?_; repeat clear hK))
    all_goals first | omega | skip
    refine halted (awp_ler 0 hX ?_ (mtrP3 hb hc hX))
    exact ⟨[], rfl, rfl, by simp [-List.getD_eq_getElem?_getD, -List.length_take, gdA, leFr, ASt.at, keepFr, updAll, upd_zero, upd_succ, AV.rnb, AV.rnb0, frOf, List.replicate, Tryz.ntmps3], by simp [-List.getD_eq_getElem?_getD, gdA, ASt.at, AO.rnb, AV.rnb0, upd_k0, upd_k1, upd_k2, upd_k3, frOf, List.replicate, Tryz.ntmps3], rfl, rfl⟩
  | true =>
    have hif1 : (if hbOk n l w = true then (hbS l w : Int) else 0) = (hbS l w : Int) := if_pos hok
    have hif2 : (if hbOk n l w = true then hbN l w else 0) = hbN l w := if_pos hok
    obtain ⟨⟨t1, t2, t3⟩, hbest⟩ := hb_best hok
    have hok' := hok
    unfold hbOk at hok'
    rw [Bool.and_eq_true, Bool.and_eq_true, decide_eq_true_eq] at hok'
    obtain ⟨hm, hwv, hwn⟩ := hok'
    obtain ⟨hn5, hlen, h32⟩ := mat_n5 hm
    have hpw := pow_nat n.toNat
    have hwa := (vecV_iff.1 hwv).2
    have hbl := bsL_len hm
    have hmem : decide ((hbS l w : Int) ∈ bsL n l) = true := decide_eq_true (mem_bsL.2 ⟨_, rfl, t1, t2, t3⟩)
    obtain ⟨t, ht⟩ : ∃ t, hbS l w = t := ⟨_, rfl⟩
    obtain ⟨o, ho⟩ : ∃ o, hbN l w = o := ⟨_, rfl⟩
    rw [ht] at hmem hif1
    rw [ho] at hbest hif2
    repeat' first | ((with_reducible show aol _ _ _ _ _); first|(refine gF (by rfl) ?_ ?_; focus simp only [go_sem]; done)|(refine gU (by rfl) ?_ ?_; focus simp only [go_sem]; done))|((with_reducible refine hK _ ?_); clear hK K; try simp only [nx])|((with_reducible show Awp _ _ (Code.seq (Code.seq (Code.region 47 _ _) _) _) _ _); refine halt ?_)|((with_reducible show Awp _ _ (Code.seq (Code.region 47 _ _) _) _ _); refine halt ?_)|(with_reducible first|refine aS fun K hK => ?_|refine aB ?_|apply And.intro|exact True.intro)|((first|((with_reducible show aol _ _ _ _ _); try first|(refine gT (by rfl) ?_ ?_; focus simp only [go_sem]; done)|refine gB (by rfl) (by rfl) (fun h => ?_) (fun h => ?_) <;> (try simp only [hsX, reduceCtorEq] at h))|((with_reducible show Awp _ _ (Code.region _ _ _) _ _); first|refine rK (by repeat constructor) (fun K hK => ?_)|(refine dK (by kernel_rfl) (by repeat constructor) (fun K hK => ?_)))) <;> simp (maxSteps := 2000000) (disch := omega) only [go_sem, ↓reduceIte, Nat.reduceEqDiff, Nat.reduceAdd, Nat.reduceLT, Nat.reduceLeDiff, Nat.reduceSub, tDrHb, after_row2, tHb, tBss, tHasM, hn, hl, hw, hok, ht, ho, hm, hmem, or0_t, orE_t, Bool.and_self])|((with_reducible show Awp _ _ (Code.cond _ _ _) _ _); refine aC rfl (fun h => ?_) (fun h => ?_) <;> (try simp only [hsX, reduceCtorEq] at h))|((with_reducible first|refine aK ?_|refine aR ?_); simp only [nx])|((with_reducible refine aE ?_); simp only [nx, ne_eq, not_false_eq_true, Nat.reduceEqDiff, reduceCtorEq]; try ((repeat ((fail_if_success refine hK _ ?_); clear hK K)); refine hK _ ?_; clear hK K))|((with_reducible first|show List.all _ _ = true|show lendOk _ _ = true); rfl)|omega|((with_reducible first|show ¬ _|show _ → _); intro h; first|contradiction|cases h; done|skip)
    all_goals (try (first|refine fK ?_|refine fM ?_; repeat clear hK))
    all_goals first | omega | skip
    refine awp_forR 0 hX (fun st (k : Nat) => st.at [0, 26, 27, 32, 34] [(36, .i k)] st.hp) (fun k => k ≤ (bsL n l).length) (fun k => (bsL n l).length - k) 0 (Nat.zero_le _) ?_ ?_
    · exact ⟨[0, 1, 2, 3, 4], rfl, rfl, by simp [-List.getD_eq_getElem?_getD, -List.length_take, gdA, leFr, ASt.at, keepFr, updAll, upd_zero, upd_succ, AV.rnb, AV.rnb0], by simp [-List.getD_eq_getElem?_getD, gdA, ASt.at, AO.rnb, AV.rnb0, upd_k0, upd_k1, upd_k2, upd_k3], rfl, rfl⟩
    rintro k hk
    simp only [ASt.at, keepFr, updAll, upd_zero, upd_succ, lgA, Nat.reduceEqDiff, Nat.reduceAdd, ↓reduceIte, eq_self]
    by_cases hkl : k < (bsL n l).length
    · obtain ⟨B, eB, hB, b1, b2⟩ := mem_bsL.1 (getD_mem hkl)
      have hset : isSet n (B : Int) = true := isSet_in ⟨by omega, by omega⟩
      have hel := elL_len B 6
      repeat' first | ((with_reducible show aol _ _ _ _ _); first|(refine gF (by rfl) ?_ ?_; focus simp only [go_sem]; done)|(refine gU (by rfl) ?_ ?_; focus simp only [go_sem]; done))|((with_reducible refine hK _ ?_); clear hK K; try simp only [nx])|((with_reducible show Awp _ _ (Code.seq (Code.seq (Code.region 47 _ _) _) _) _ _); refine halt ?_)|((with_reducible show Awp _ _ (Code.seq (Code.region 47 _ _) _) _ _); refine halt ?_)|(with_reducible first|refine aS fun K hK => ?_|refine aB ?_|apply And.intro|exact True.intro)|((first|((with_reducible show aol _ _ _ _ _); try first|(refine gT (by rfl) ?_ ?_; focus simp only [go_sem]; done)|refine gB (by rfl) (by rfl) (fun h => ?_) (fun h => ?_) <;> (try simp only [hsX, reduceCtorEq] at h))|((with_reducible show Awp _ _ (Code.region _ _ _) _ _); first|refine rK (by repeat constructor) (fun K hK => ?_)|(refine dK (by kernel_rfl) (by repeat constructor) (fun K hK => ?_)))) <;> simp (maxSteps := 2000000) (disch := omega) only [go_sem, ↓reduceIte, Nat.reduceEqDiff, Nat.reduceAdd, Nat.reduceLT, Nat.reduceLeDiff, Nat.reduceSub, eB, tElOf, hset, Int.toNat_natCast])|((with_reducible show Awp _ _ (Code.cond _ _ _) _ _); refine aC rfl (fun h => ?_) (fun h => ?_) <;> (try simp only [hsX, reduceCtorEq] at h))|((with_reducible first|refine aK ?_|refine aR ?_); simp only [nx])|((with_reducible refine aE ?_); simp only [nx, ne_eq, not_false_eq_true, Nat.reduceEqDiff, reduceCtorEq]; try ((repeat ((fail_if_success refine hK _ ?_); clear hK K)); refine hK _ ?_; clear hK K))|((with_reducible first|show List.all _ _ = true|show lendOk _ _ = true); rfl)|omega|((with_reducible first|show ¬ _|show _ → _); intro h; first|contradiction|cases h; done|skip)
      all_goals (try (first|refine fK ?_|refine fM ?_; repeat clear hK))
      refine awp_for (fun st (j : Nat) => st.at [0, 26, 27, 32, 34, 36, 37] [(38, .i (eyV w (elL B 6) j)), (39, .i j)] st.hp) (fun j => j ≤ (elL B 6).length) (fun j => (elL B 6).length - j) 0 (Nat.zero_le _) ?_ ?_
      · simp [-List.getD_eq_getElem?_getD, -List.length_take, Le, leFr, ASt.at, keepFr, updAll, upd_zero, upd_succ, eyV]
      rintro j hj
      simp only [ASt.at, keepFr, updAll, upd_zero, upd_succ, lgA, Nat.reduceEqDiff, Nat.reduceAdd, ↓reduceIte, eq_self]
      have hyb := eyV_bd (x := elL B 6) hwa j
      by_cases hjl : j < (elL B 6).length
      · obtain ⟨x0, x1, x2⟩ := elL_at hjl
        have hxn := bit_lt2 hB x2
        have hwb := getD_bd hwa ((elL B 6).getD j 0).toNat
        have e : eyV w (elL B 6) (j + 1) = eyV w (elL B 6) j + w.getD ((elL B 6).getD j 0).toNat 0 := rfl
        repeat' first | ((with_reducible show aol _ _ _ _ _); first|(refine gF (by rfl) ?_ ?_; focus simp only [go_sem]; done)|(refine gU (by rfl) ?_ ?_; focus simp only [go_sem]; done))|((with_reducible refine hK _ ?_); clear hK K; try simp only [nx])|((with_reducible show Awp _ _ (Code.seq (Code.seq (Code.region 47 _ _) _) _) _ _); refine halt ?_)|((with_reducible show Awp _ _ (Code.seq (Code.region 47 _ _) _) _ _); refine halt ?_)|(with_reducible first|refine aS fun K hK => ?_|refine aB ?_|apply And.intro|exact True.intro)|((first|((with_reducible show aol _ _ _ _ _); try first|(refine gT (by rfl) ?_ ?_; focus simp only [go_sem]; done)|refine gB (by rfl) (by rfl) (fun h => ?_) (fun h => ?_) <;> (try simp only [hsX, reduceCtorEq] at h))|((with_reducible show Awp _ _ (Code.region _ _ _) _ _); first|refine rK (by repeat constructor) (fun K hK => ?_)|(refine dK (by kernel_rfl) (by repeat constructor) (fun K hK => ?_)))) <;> simp (maxSteps := 2000000) (disch := omega) only [go_sem, ↓reduceIte, Nat.reduceEqDiff, Nat.reduceAdd, Nat.reduceLT, Nat.reduceLeDiff, Nat.reduceSub])|((with_reducible show Awp _ _ (Code.cond _ _ _) _ _); refine aC rfl (fun h => ?_) (fun h => ?_) <;> (try simp only [hsX, reduceCtorEq] at h))|((with_reducible first|refine aK ?_|refine aR ?_); simp only [nx])|((with_reducible refine aE ?_); simp only [nx, ne_eq, not_false_eq_true, Nat.reduceEqDiff, reduceCtorEq]; try ((repeat ((fail_if_success refine hK _ ?_); clear hK K)); refine hK _ ?_; clear hK K))|((with_reducible first|show List.all _ _ = true|show lendOk _ _ = true); rfl)|omega|((with_reducible first|show ¬ _|show _ → _); intro h; first|contradiction|cases h; done|skip)
        all_goals (try (first|refine fK ?_|refine fM ?_; repeat clear hK))
        refine ⟨j + 1, by omega, by omega, ?_⟩
        simp [-List.getD_eq_getElem?_getD, -List.length_take, Le, leFr, ASt.at, keepFr, updAll, upd_zero, upd_succ, e]
      · obtain rfl : j = (elL B 6).length := by omega
        have hs := hbest B hB b1 b2
        have h6 := eyV_el w B 6
        rw [wV_six hB 6 (by omega), show n.toNat = w.length by omega] at h6
        have hle : ¬ o < eyV w (elL B 6) (elL B 6).length := by omega
        repeat' first | ((with_reducible show aol _ _ _ _ _); first|(refine gF (by rfl) ?_ ?_; focus simp only [go_sem]; done)|(refine gU (by rfl) ?_ ?_; focus simp only [go_sem]; done))|((with_reducible refine hK _ ?_); clear hK K; try simp only [nx])|((with_reducible show Awp _ _ (Code.seq (Code.seq (Code.region 47 _ _) _) _) _ _); refine halt ?_)|((with_reducible show Awp _ _ (Code.seq (Code.region 47 _ _) _) _ _); refine halt ?_)|(with_reducible first|refine aS fun K hK => ?_|refine aB ?_|apply And.intro|exact True.intro)|((first|((with_reducible show aol _ _ _ _ _); try first|(refine gT (by rfl) ?_ ?_; focus simp only [go_sem]; done)|refine gB (by rfl) (by rfl) (fun h => ?_) (fun h => ?_) <;> (try simp only [hsX, reduceCtorEq] at h))|((with_reducible show Awp _ _ (Code.region _ _ _) _ _); first|refine rK (by repeat constructor) (fun K hK => ?_)|(refine dK (by kernel_rfl) (by repeat constructor) (fun K hK => ?_)))) <;> simp (maxSteps := 2000000) (disch := omega) only [go_sem, ↓reduceIte, Nat.reduceEqDiff, Nat.reduceAdd, Nat.reduceLT, Nat.reduceLeDiff, Nat.reduceSub, hle])|((with_reducible show Awp _ _ (Code.cond _ _ _) _ _); refine aC rfl (fun h => ?_) (fun h => ?_) <;> (try simp only [hsX, reduceCtorEq] at h))|((with_reducible first|refine aK ?_|refine aR ?_); simp only [nx])|((with_reducible refine aE ?_); simp only [nx, ne_eq, not_false_eq_true, Nat.reduceEqDiff, reduceCtorEq]; try ((repeat ((fail_if_success refine hK _ ?_); clear hK K)); refine hK _ ?_; clear hK K))|((with_reducible first|show List.all _ _ = true|show lendOk _ _ = true); rfl)|omega|((with_reducible first|show ¬ _|show _ → _); intro h; first|contradiction|cases h; done|skip)
        all_goals (try (first|refine fK ?_|refine fM ?_; repeat clear hK))
        refine ⟨k + 1, by omega, by omega, ?_⟩
        exact ⟨[0, 1, 2, 3, 4], rfl, rfl, by simp [-List.getD_eq_getElem?_getD, -List.length_take, gdA, leFr, ASt.at, keepFr, updAll, upd_zero, upd_succ, AV.rnb, AV.rnb0], by simp [-List.getD_eq_getElem?_getD, gdA, ASt.at, AO.rnb, AV.rnb0, upd_k0, upd_k1, upd_k2, upd_k3], rfl, rfl⟩
    · obtain rfl : k = (bsL n l).length := by omega
      repeat' first | ((with_reducible show aol _ _ _ _ _); first|(refine gF (by rfl) ?_ ?_; focus simp only [go_sem]; done)|(refine gU (by rfl) ?_ ?_; focus simp only [go_sem]; done))|((with_reducible refine hK _ ?_); clear hK K; try simp only [nx])|((with_reducible show Awp _ _ (Code.seq (Code.seq (Code.region 47 _ _) _) _) _ _); refine halt ?_)|((with_reducible show Awp _ _ (Code.seq (Code.region 47 _ _) _) _ _); refine halt ?_)|(with_reducible first|refine aS fun K hK => ?_|refine aB ?_|apply And.intro|exact True.intro)|((first|((with_reducible show aol _ _ _ _ _); try first|(refine gT (by rfl) ?_ ?_; focus simp only [go_sem]; done)|refine gB (by rfl) (by rfl) (fun h => ?_) (fun h => ?_) <;> (try simp only [hsX, reduceCtorEq] at h))|((with_reducible show Awp _ _ (Code.region _ _ _) _ _); first|refine rK (by repeat constructor) (fun K hK => ?_)|(refine dK (by kernel_rfl) (by repeat constructor) (fun K hK => ?_)))) <;> simp (maxSteps := 2000000) (disch := omega) only [go_sem, ↓reduceIte, Nat.reduceEqDiff, Nat.reduceAdd, Nat.reduceLT, Nat.reduceLeDiff, Nat.reduceSub])|((with_reducible show Awp _ _ (Code.cond _ _ _) _ _); refine aC rfl (fun h => ?_) (fun h => ?_) <;> (try simp only [hsX, reduceCtorEq] at h))|((with_reducible first|refine aK ?_|refine aR ?_); simp only [nx])|((with_reducible refine aE ?_); simp only [nx, ne_eq, not_false_eq_true, Nat.reduceEqDiff, reduceCtorEq]; try ((repeat ((fail_if_success refine hK _ ?_); clear hK K)); refine hK _ ?_; clear hK K))|((with_reducible first|show List.all _ _ = true|show lendOk _ _ = true); rfl)|omega|((with_reducible first|show ¬ _|show _ → _); intro h; first|contradiction|cases h; done|skip)
      all_goals (try (first|refine fK ?_|refine fM ?_; repeat clear hK))
      all_goals first | omega | skip
      refine halted (awp_ler 0 hX ?_ (mtrP3 hb hc hX))
      exact ⟨[], rfl, rfl, by simp [-List.getD_eq_getElem?_getD, -List.length_take, gdA, leFr, ASt.at, keepFr, updAll, upd_zero, upd_succ, AV.rnb, AV.rnb0, frOf, List.replicate, Tryz.ntmps3], by simp [-List.getD_eq_getElem?_getD, gdA, ASt.at, AO.rnb, AV.rnb0, upd_k0, upd_k1, upd_k2, upd_k3, frOf, List.replicate, Tryz.ntmps3], rfl, rfl⟩
theorem lawMtr_ok : Fits Tryz.prog 3 tLawB := by
  refine ⟨callable_of Tryz.func3 (by kernel_rfl) rfl, ?_⟩
  intro args p out Ho h hp
  unfold tLawB at h
  split at h <;> cases h
  rename_i b
  refine ⟨acall_by (env_ok (env := [(4, tBig), (5, tDr17), (6, tBss), (7, tBss), (8, tEqF), (9, tIsMat), (10, tDr), (11, tDr), (12, tCi), (13, tCi), (14, tEqF), (15, tRfb), (26, tRfb), (16, tCp), (17, tBas), (28, tBas), (18, tInd), (29, tInd), (19, tVal), (20, tElOf), (21, tDrHb), (22, tHb), (23, tHb), (24, tHasM), (25, tDrLf), (27, tDrIi)]) (by simp only [fmA, and_true]; exact ⟨big_ok, drBs_ok, implBss_ok, specBss_ok, specEqF_ok, implIsMat_ok, implDr_ok, specDr_ok, implCi_ok, specCi_ok, specEqFn_ok, implRfb_ok, specRfb_ok, implCp_ok, implBas_ok, specBas_ok, implInd_ok, specInd_ok, implVal_ok, specElOf_ok, drHb_ok, implHb_ok, specHb_ok, lawHas_ok, drRf_ok, drIi_ok⟩)) Tryz.func3 rfl rfl rfl rfl rfl ?_, rfl, rfl⟩
  intro hlen c hc hX
  simp only [lensOk, AV.lenOk, true_and, and_true] at hlen
  simp only [Tryz.ntmps3, Tryz.results3, lsA, List.replicate, Nat.reduceAdd, Nat.reduceSub]
  by_cases hbig : 1048576 < b.length
  · repeat' first | ((with_reducible show aol _ _ _ _ _); first|(refine gF (by rfl) ?_ ?_; focus simp only [go_sem]; done)|(refine gU (by rfl) ?_ ?_; focus simp only [go_sem]; done))|((with_reducible refine hK _ ?_); clear hK K; try simp only [nx])|(with_reducible first|refine aS fun K hK => ?_|refine aB ?_|apply And.intro|exact True.intro)|((first|((with_reducible show aol _ _ _ _ _); try first|(refine gT (by rfl) ?_ ?_; focus simp only [go_sem]; done)|refine gB (by rfl) (by rfl) (fun h => ?_) (fun h => ?_) <;> (try simp only [hsX, reduceCtorEq] at h))|((with_reducible show Awp _ _ (Code.region _ _ _) _ _); first|refine rK (by repeat constructor) (fun K hK => ?_)|(refine dK (by kernel_rfl) (by repeat constructor) (fun K hK => ?_)))) <;> simp (maxSteps := 2000000) (disch := omega) only [go_sem, ↓reduceIte, Nat.reduceEqDiff, Nat.reduceAdd, Nat.reduceLT, Nat.reduceLeDiff, Nat.reduceSub, tBig])|((with_reducible show Awp _ _ (Code.cond _ _ _) _ _); refine aC rfl (fun h => ?_) (fun h => ?_) <;> (try simp only [hsX, reduceCtorEq] at h))|((with_reducible first|refine aK ?_|refine aR ?_); simp only [nx])|((with_reducible refine aE ?_); simp only [nx, ne_eq, not_false_eq_true, Nat.reduceEqDiff, reduceCtorEq]; try ((repeat ((fail_if_success refine hK _ ?_); clear hK K)); refine hK _ ?_; clear hK K))|((with_reducible first|show List.all _ _ = true|show lendOk _ _ = true); rfl)|omega|((with_reducible first|show ¬ _|show _ → _); intro h; first|contradiction|cases h; done|skip)
    all_goals (try (first|refine fK ?_|refine fM ?_; repeat clear hK))
    all_goals first | omega | exact fin_tmp rfl rfl
  have hb : b.length ≤ 1048576 := by omega
  obtain ⟨n, hn⟩ : ∃ n, drMat b = n := ⟨_, rfl⟩
  obtain ⟨l, hl⟩ : ∃ l, drMaL b = l := ⟨_, rfl⟩
  cases hm : matV n l with
  | false =>
    have hd : okDr n l = false := by unfold okDr; rw [hm]; rfl
    repeat' first | ((with_reducible show aol _ _ _ _ _); first|(refine gF (by rfl) ?_ ?_; focus simp only [go_sem]; done)|(refine gU (by rfl) ?_ ?_; focus simp only [go_sem]; done))|((with_reducible refine hK _ ?_); clear hK K; try simp only [nx])|((with_reducible show Awp _ _ (Code.seq (Code.seq (Code.region 27 _ _) _) _) _ _); refine halt ?_)|((with_reducible show Awp _ _ (Code.seq (Code.region 27 _ _) _) _ _); refine halt ?_)|(with_reducible first|refine aS fun K hK => ?_|refine aB ?_|apply And.intro|exact True.intro)|((first|((with_reducible show aol _ _ _ _ _); try first|(refine gT (by rfl) ?_ ?_; focus simp only [go_sem]; done)|refine gB (by rfl) (by rfl) (fun h => ?_) (fun h => ?_) <;> (try simp only [hsX, reduceCtorEq] at h))|((with_reducible show Awp _ _ (Code.region _ _ _) _ _); first|refine rK (by repeat constructor) (fun K hK => ?_)|(refine dK (by kernel_rfl) (by repeat constructor) (fun K hK => ?_)))) <;> simp (maxSteps := 2000000) (disch := omega) only [go_sem, ↓reduceIte, Nat.reduceEqDiff, Nat.reduceAdd, Nat.reduceLT, Nat.reduceLeDiff, Nat.reduceSub, tBig, tDr17, tBss, tEqF, tIsMat, tDr, tCi, hn, hl, hm, hd, orE_f, Bool.and_self, bne_self_eq_false])|((with_reducible show Awp _ _ (Code.cond _ _ _) _ _); refine aC rfl (fun h => ?_) (fun h => ?_) <;> (try simp only [hsX, reduceCtorEq] at h))|((with_reducible first|refine aK ?_|refine aR ?_); simp only [nx])|((with_reducible refine aE ?_); simp only [nx, ne_eq, not_false_eq_true, Nat.reduceEqDiff, reduceCtorEq]; try ((repeat ((fail_if_success refine hK _ ?_); clear hK K)); refine hK _ ?_; clear hK K))|((with_reducible first|show List.all _ _ = true|show lendOk _ _ = true); rfl)|omega|((with_reducible first|show ¬ _|show _ → _); intro h; first|contradiction|cases h; done|skip)
    all_goals (try (first|refine fK ?_|refine fM ?_; repeat clear hK))
    all_goals first | omega | skip
    refine halted (awp_ler 0 hX ?_ (mtrP2 hb hc hX))
    exact ⟨[], rfl, rfl, by simp [-List.getD_eq_getElem?_getD, -List.length_take, gdA, leFr, ASt.at, keepFr, updAll, upd_zero, upd_succ, AV.rnb, AV.rnb0, frOf, List.replicate, Tryz.ntmps3], by simp [-List.getD_eq_getElem?_getD, gdA, ASt.at, AO.rnb, AV.rnb0, upd_k0, upd_k1, upd_k2, upd_k3, frOf, List.replicate, Tryz.ntmps3], rfl, rfl⟩
  | true =>
    obtain ⟨hn5, hlen, h32⟩ := mat_n5 hm
    have hpw := pow_nat n.toNat
    have hd := dr_ok hm
    have hdm := dr_mat hm
    have hdd := dr_ok hdm
    have hdb := dr_back hm
    have hbs := dr_bases hm
    have hbf := bs_fam hm
    have hbb := bs_bas hm
    have hbl := bsL_len hm
    have hrb : mkL (rbF (bsL n l)) (2 ^ n.toNat) = l := rb_back hm
    have hok : okRb n (bsL n l) = true := by unfold okRb; rw [hbb, decide_eq_true hn5.2]; rfl
    have hci := fun k (hk : k < (minV (ciL n l)).length) => ci_at hm (getD_mem hk)
    have hcl : (minV (ciL n l)).length ≤ 32 := Nat.le_trans (pickL_len ..) (Nat.le_trans (rangeL_len ..) h32)
    repeat' first | ((with_reducible show aol _ _ _ _ _); first|(refine gF (by rfl) ?_ ?_; focus simp only [go_sem]; done)|(refine gU (by rfl) ?_ ?_; focus simp only [go_sem]; done))|((with_reducible refine hK _ ?_); clear hK K; try simp only [nx])|((with_reducible show Awp _ _ (Code.seq (Code.seq (Code.region 27 _ _) _) _) _ _); refine halt ?_)|((with_reducible show Awp _ _ (Code.seq (Code.region 27 _ _) _) _ _); refine halt ?_)|(with_reducible first|refine aS fun K hK => ?_|refine aB ?_|apply And.intro|exact True.intro)|((first|((with_reducible show aol _ _ _ _ _); try first|(refine gT (by rfl) ?_ ?_; focus simp only [go_sem]; done)|refine gB (by rfl) (by rfl) (fun h => ?_) (fun h => ?_) <;> (try simp only [hsX, reduceCtorEq] at h))|((with_reducible show Awp _ _ (Code.region _ _ _) _ _); first|refine rK (by repeat constructor) (fun K hK => ?_)|(refine dK (by kernel_rfl) (by repeat constructor) (fun K hK => ?_)))) <;> simp (maxSteps := 2000000) (disch := omega) only [go_sem, ↓reduceIte, Nat.reduceEqDiff, Nat.reduceAdd, Nat.reduceLT, Nat.reduceLeDiff, Nat.reduceSub, tBig, tDr17, tBss, tEqF, tIsMat, tDr, tCi, tRfb, tCp, tBas, hn, hl, hm, hd, hdm, hdd, hdb, hbs, hbf, hbb, hrb, hok, or0_t, orE_t, Bool.and_self, bne_self_eq_false])|((with_reducible show Awp _ _ (Code.cond _ _ _) _ _); refine aC rfl (fun h => ?_) (fun h => ?_) <;> (try simp only [hsX, reduceCtorEq] at h))|((with_reducible first|refine aK ?_|refine aR ?_); simp only [nx])|((with_reducible refine aE ?_); simp only [nx, ne_eq, not_false_eq_true, Nat.reduceEqDiff, reduceCtorEq]; try ((repeat ((fail_if_success refine hK _ ?_); clear hK K)); refine hK _ ?_; clear hK K))|((with_reducible first|show List.all _ _ = true|show lendOk _ _ = true); rfl)|omega|((with_reducible first|show ¬ _|show _ → _); intro h; first|contradiction|cases h; done|skip)
    all_goals (try (first|refine fK ?_|refine fM ?_; repeat clear hK))
    all_goals first | omega | skip
    refine awp_forR 0 hX (fun st (k : Nat) => st.at [0, 3, 14] [(24, .i k)] st.hp) (fun k => k ≤ (minV (ciL n l)).length) (fun k => (minV (ciL n l)).length - k) 0 (Nat.zero_le _) ?_ ?_
    · exact ⟨[0, 1, 2, 3, 4, 5, 6, 7, 8, 9, 10, 11, 12, 13, 14, 15, 16, 17, 18, 19, 20, 21], rfl, rfl, by simp [-List.getD_eq_getElem?_getD, -List.length_take, gdA, leFr, ASt.at, keepFr, updAll, upd_zero, upd_succ, AV.rnb, AV.rnb0], by simp [-List.getD_eq_getElem?_getD, gdA, ASt.at, AO.rnb, AV.rnb0, upd_k0, upd_k1, upd_k2, upd_k3], rfl, rfl⟩
    rintro k hk
    simp only [ASt.at, keepFr, updAll, upd_zero, upd_succ, lgA, Nat.reduceEqDiff, Nat.reduceAdd, ↓reduceIte, eq_self]
    by_cases hkl : k < (minV (ciL n l)).length
    · obtain ⟨S, eS, hS, hfr, hlS⟩ := hci k hkl
      have hset : isSet n (S : Int) = true := isSet_in ⟨by omega, by omega⟩
      have hind : indV n l (S : Int) = false := by unfold indV; rw [hfr, Bool.and_false, Bool.and_false]
      have hval : valV n l (S : Int) = (popN S : Int) - 1 := by
        unfold valV; rw [if_pos ⟨mat_fn hm, hset⟩, Int.toNat_natCast, hlS]
      have hel := elPop (s := S) (by omega)
      have hel2 : ((elL S 6).length : Int) = (popN S : Int) := by rw [hel]
      have hpl := popN_le S
      repeat' first | ((with_reducible show aol _ _ _ _ _); first|(refine gF (by rfl) ?_ ?_; focus simp only [go_sem]; done)|(refine gU (by rfl) ?_ ?_; focus simp only [go_sem]; done))|((with_reducible refine hK _ ?_); clear hK K; try simp only [nx])|((with_reducible show Awp _ _ (Code.seq (Code.seq (Code.region 27 _ _) _) _) _ _); refine halt ?_)|((with_reducible show Awp _ _ (Code.seq (Code.region 27 _ _) _) _ _); refine halt ?_)|(with_reducible first|refine aS fun K hK => ?_|refine aB ?_|apply And.intro|exact True.intro)|((first|((with_reducible show aol _ _ _ _ _); try first|(refine gT (by rfl) ?_ ?_; focus simp only [go_sem]; done)|refine gB (by rfl) (by rfl) (fun h => ?_) (fun h => ?_) <;> (try simp only [hsX, reduceCtorEq] at h))|((with_reducible show Awp _ _ (Code.region _ _ _) _ _); first|refine rK (by repeat constructor) (fun K hK => ?_)|(refine dK (by kernel_rfl) (by repeat constructor) (fun K hK => ?_)))) <;> simp (maxSteps := 2000000) (disch := omega) only [go_sem, ↓reduceIte, Nat.reduceEqDiff, Nat.reduceAdd, Nat.reduceLT, Nat.reduceLeDiff, Nat.reduceSub, eS, tInd, tVal, tElOf, hset, hind, hval, hel2, Int.toNat_natCast])|((with_reducible show Awp _ _ (Code.cond _ _ _) _ _); refine aC rfl (fun h => ?_) (fun h => ?_) <;> (try simp only [hsX, reduceCtorEq] at h))|((with_reducible first|refine aK ?_|refine aR ?_); simp only [nx])|((with_reducible refine aE ?_); simp only [nx, ne_eq, not_false_eq_true, Nat.reduceEqDiff, reduceCtorEq]; try ((repeat ((fail_if_success refine hK _ ?_); clear hK K)); refine hK _ ?_; clear hK K))|((with_reducible first|show List.all _ _ = true|show lendOk _ _ = true); rfl)|omega|((with_reducible first|show ¬ _|show _ → _); intro h; first|contradiction|cases h; done|skip)
      all_goals (try (first|refine fK ?_|refine fM ?_; repeat clear hK))
      refine ⟨k + 1, by omega, by omega, ?_⟩
      exact ⟨[0, 1, 2, 3, 4, 5, 6, 7, 8, 9, 10, 11, 12, 13, 14, 15, 16, 17, 18, 19, 20, 21], rfl, rfl, by simp [-List.getD_eq_getElem?_getD, -List.length_take, gdA, leFr, ASt.at, keepFr, updAll, upd_zero, upd_succ, AV.rnb, AV.rnb0], by simp [-List.getD_eq_getElem?_getD, gdA, ASt.at, AO.rnb, AV.rnb0, upd_k0, upd_k1, upd_k2, upd_k3], rfl, rfl⟩
    · obtain rfl : k = (minV (ciL n l)).length := by omega
      repeat' first | ((with_reducible show aol _ _ _ _ _); first|(refine gF (by rfl) ?_ ?_; focus simp only [go_sem]; done)|(refine gU (by rfl) ?_ ?_; focus simp only [go_sem]; done))|((with_reducible refine hK _ ?_); clear hK K; try simp only [nx])|((with_reducible show Awp _ _ (Code.seq (Code.seq (Code.region 27 _ _) _) _) _ _); refine halt ?_)|((with_reducible show Awp _ _ (Code.seq (Code.region 27 _ _) _) _ _); refine halt ?_)|(with_reducible first|refine aS fun K hK => ?_|refine aB ?_|apply And.intro|exact True.intro)|((first|((with_reducible show aol _ _ _ _ _); try first|(refine gT (by rfl) ?_ ?_; focus simp only [go_sem]; done)|refine gB (by rfl) (by rfl) (fun h => ?_) (fun h => ?_) <;> (try simp only [hsX, reduceCtorEq] at h))|((with_reducible show Awp _ _ (Code.region _ _ _) _ _); first|refine rK (by repeat constructor) (fun K hK => ?_)|(refine dK (by kernel_rfl) (by repeat constructor) (fun K hK => ?_)))) <;> simp (maxSteps := 2000000) (disch := omega) only [go_sem, ↓reduceIte, Nat.reduceEqDiff, Nat.reduceAdd, Nat.reduceLT, Nat.reduceLeDiff, Nat.reduceSub])|((with_reducible show Awp _ _ (Code.cond _ _ _) _ _); refine aC rfl (fun h => ?_) (fun h => ?_) <;> (try simp only [hsX, reduceCtorEq] at h))|((with_reducible first|refine aK ?_|refine aR ?_); simp only [nx])|((with_reducible refine aE ?_); simp only [nx, ne_eq, not_false_eq_true, Nat.reduceEqDiff, reduceCtorEq]; try ((repeat ((fail_if_success refine hK _ ?_); clear hK K)); refine hK _ ?_; clear hK K))|((with_reducible first|show List.all _ _ = true|show lendOk _ _ = true); rfl)|omega|((with_reducible first|show ¬ _|show _ → _); intro h; first|contradiction|cases h; done|skip)
      all_goals (try (first|refine fK ?_|refine fM ?_; repeat clear hK))
      all_goals first | omega | skip
      refine halted (awp_ler 0 hX ?_ (mtrP2 hb hc hX))
      exact ⟨[], rfl, rfl, by simp [-List.getD_eq_getElem?_getD, -List.length_take, gdA, leFr, ASt.at, keepFr, updAll, upd_zero, upd_succ, AV.rnb, AV.rnb0, frOf, List.replicate, Tryz.ntmps3], by simp [-List.getD_eq_getElem?_getD, gdA, ASt.at, AO.rnb, AV.rnb0, upd_k0, upd_k1, upd_k2, upd_k3, frOf, List.replicate, Tryz.ntmps3], rfl, rfl⟩
end Go.Proofs.YthoionlldmfpiaaGreat
