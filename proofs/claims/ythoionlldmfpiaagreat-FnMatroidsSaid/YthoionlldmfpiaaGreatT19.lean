import Derived.Test.YthoionlldmfpiaaGreatHs
import Derived.Test.YthoionlldmfpiaaGreatT18
set_option linter.unusedSimpArgs false
set_option linter.unusedVariables false
set_option maxHeartbeats 2000000
namespace Go.Proofs.YthoionlldmfpiaaGreat
open Go Go.Ab
attribute [local irreducible] aol
theorem fin_nlbV {C : Cfg} {t u : Tmp} {k : IntKind} {E : TypeId} {x : Bool} {s : ASt} (ht : t < s.fr.length) (htu : t ≠ u) (h : nth s.fr t = .nl) (hu : nth s.fr u = .b x) : FinS C [.tmp t, .tmp u] (.tu [.own 0, .b x]) [.row k E []] s := by
  refine FinS.wk (wk_nl k E h) (fin_ownbV (j := s.hp.length) (nth_upd_same _ _ _ ht) ?_ ?_)
  · show (s.hp ++ [AO.row k E []])[s.hp.length]? = _
    rw [List.getElem?_append_right (Nat.le_refl _)]; simp
  · show nth (upd s.fr t _) u = _
    rw [nth_upd_other _ _ _ _ htu]; exact hu
theorem finm_t {m : Nat} {C : Cfg} {t : Tmp} {out : AV} {Ho : List AO} {s : ASt} (σ : List Nat) (h0 : nth s.fr t = out.ren σ) (h1 : nodupB σ = true) (h2 : σ.take m = List.range m) (h3 : σ.map (fun i => s.hp[i]?) = Ho.map (fun o => some (o.ren σ))) : FinSM m C [.tmp t] out Ho s :=
  ⟨s, Wk.refl s, _, _, rfl, ⟨trivial, trivial⟩, σ, nodupB_spec h1, h2, h0, h3⟩
theorem finm_0 {m : Nat} {C : Cfg} {Ho : List AO} {s : ASt} (σ : List Nat) (h1 : nodupB σ = true) (h2 : σ.take m = List.range m) (h3 : σ.map (fun i => s.hp[i]?) = Ho.map (fun o => some (o.ren σ))) : FinSM m C [] (.tu []) Ho s :=
  ⟨s, Wk.refl s, _, _, rfl, trivial, σ, nodupB_spec h1, h2, rfl, h3⟩
def tVio1 : MTab
  | [.i s, .i i, .i k, .bp 0 0, .bp 1 0], [.box T [.i n, .sl .i64 l], .box U [.nl]] =>
    if 0 < excV l s.toNat i.toNat k.toNat then some (vioPre l s i k, .b false, [.box T [.i n, .sl .i64 l], .box U [.own 2], .row .i64 3 [s, i, k]])
    else some (vioPre l s i k, .b true, [.box T [.i n, .sl .i64 l], .box U [.nl]])
  | _, _ => none
theorem tVio1_yes {s i k n : Int} {l : List Int} {T U : TypeId} (h : 0 < excV l s.toNat i.toNat k.toNat) : tVio1 [.i s, .i i, .i k, .bp 0 0, .bp 1 0] [.box T [.i n, .sl .i64 l], .box U [.nl]] = some (vioPre l s i k, .b false, [.box T [.i n, .sl .i64 l], .box U [.own 2], .row .i64 3 [s, i, k]]) := by
  exact if_pos h
theorem tVio1_no {s i k n : Int} {l : List Int} {T U : TypeId} (h : ¬ 0 < excV l s.toNat i.toNat k.toNat) : tVio1 [.i s, .i i, .i k, .bp 0 0, .bp 1 0] [.box T [.i n, .sl .i64 l], .box U [.nl]] = some (vioPre l s i k, .b true, [.box T [.i n, .sl .i64 l], .box U [.nl]]) := by
  exact if_neg h
theorem vio1_ok : FitsM Tryz.prog 118 tVio1 := by
  refine ⟨?_⟩
  intro args L p out Ho h hp
  unfold tVio1 at h
  split at h
  · rename_i s i k T n l U
    split at h <;> cases h <;> rename_i hex
    · refine mok_by (env_ok (env := [(119, tExc)]) (by simp only [fmA, and_true]; exact exc_ok)) (callable_of Tryz.func118 (by kernel_rfl) rfl) Tryz.func118 rfl rfl rfl rfl rfl (by simp) ?_
      intro hlen c hc hX
      simp only [Tryz.ntmps118, Tryz.results118, lsA, List.replicate, Nat.reduceAdd, Nat.reduceSub]
      repeat' first | ((with_reducible show aol _ _ _ _ _); first|(refine gF (by rfl) ?_ ?_; focus simp only [go_sem]; done)|(refine gU (by rfl) ?_ ?_; focus simp only [go_sem]; done))|((with_reducible refine hK _ ?_); clear hK K; try simp only [nx])|(with_reducible first|refine aS fun K hK => ?_|refine aB ?_|apply And.intro|exact True.intro)|((first|((with_reducible show aol _ _ _ _ _); try first|(refine gT (by rfl) ?_ ?_; focus simp only [go_sem]; done)|refine gB (by rfl) (by rfl) (fun h => ?_) (fun h => ?_) <;> (try simp only [hsX, reduceCtorEq] at h))|((with_reducible show Awp _ _ (Code.region _ _ _) _ _); first|refine rK (by repeat constructor) (fun K hK => ?_)|(refine dK (by kernel_rfl) (by repeat constructor) (fun K hK => ?_)))) <;> simp (maxSteps := 2000000) (disch := omega) only [go_sem, ↓reduceIte, Nat.reduceEqDiff, Nat.reduceAdd, Nat.reduceLT, Nat.reduceLeDiff, Nat.reduceSub, tExc, hp])|((with_reducible show Awp _ _ (Code.cond _ _ _) _ _); refine aC rfl (fun h => ?_) (fun h => ?_) <;> (try simp only [hsX, reduceCtorEq] at h))|((with_reducible first|refine aK ?_|refine aR ?_); simp only [nx])|((with_reducible refine aE ?_); simp only [nx, ne_eq, not_false_eq_true, Nat.reduceEqDiff, reduceCtorEq]; try ((repeat ((fail_if_success refine hK _ ?_); clear hK K)); refine hK _ ?_; clear hK K))|((with_reducible first|show List.all _ _ = true|show lendOk _ _ = true); rfl)|omega|((with_reducible first|show ¬ _|show _ → _); intro h; first|contradiction|cases h; done|skip)
      all_goals (try (first|refine fK ?_|refine fM ?_; repeat clear hK))
      exact finm_t [0, 1, 2] rfl rfl rfl rfl
    · refine mok_by (env_ok (env := [(119, tExc)]) (by simp only [fmA, and_true]; exact exc_ok)) (callable_of Tryz.func118 (by kernel_rfl) rfl) Tryz.func118 rfl rfl rfl rfl rfl (by simp) ?_
      intro hlen c hc hX
      simp only [Tryz.ntmps118, Tryz.results118, lsA, List.replicate, Nat.reduceAdd, Nat.reduceSub]
      repeat' first | ((with_reducible show aol _ _ _ _ _); first|(refine gF (by rfl) ?_ ?_; focus simp only [go_sem]; done)|(refine gU (by rfl) ?_ ?_; focus simp only [go_sem]; done))|((with_reducible refine hK _ ?_); clear hK K; try simp only [nx])|(with_reducible first|refine aS fun K hK => ?_|refine aB ?_|apply And.intro|exact True.intro)|((first|((with_reducible show aol _ _ _ _ _); try first|(refine gT (by rfl) ?_ ?_; focus simp only [go_sem]; done)|refine gB (by rfl) (by rfl) (fun h => ?_) (fun h => ?_) <;> (try simp only [hsX, reduceCtorEq] at h))|((with_reducible show Awp _ _ (Code.region _ _ _) _ _); first|refine rK (by repeat constructor) (fun K hK => ?_)|(refine dK (by kernel_rfl) (by repeat constructor) (fun K hK => ?_)))) <;> simp (maxSteps := 2000000) (disch := omega) only [go_sem, ↓reduceIte, Nat.reduceEqDiff, Nat.reduceAdd, Nat.reduceLT, Nat.reduceLeDiff, Nat.reduceSub, tExc, hp])|((with_reducible show Awp _ _ (Code.cond _ _ _) _ _); refine aC rfl (fun h => ?_) (fun h => ?_) <;> (try simp only [hsX, reduceCtorEq] at h))|((with_reducible first|refine aK ?_|refine aR ?_); simp only [nx])|((with_reducible refine aE ?_); simp only [nx, ne_eq, not_false_eq_true, Nat.reduceEqDiff, reduceCtorEq]; try ((repeat ((fail_if_success refine hK _ ?_); clear hK K)); refine hK _ ?_; clear hK K))|((with_reducible first|show List.all _ _ = true|show lendOk _ _ = true); rfl)|omega|((with_reducible first|show ¬ _|show _ → _); intro h; first|contradiction|cases h; done|skip)
      all_goals (try (first|refine fK ?_|refine fM ?_; repeat clear hK))
      exact finm_t [0, 1] rfl rfl rfl rfl
  · cases h
def vioH (T U : TypeId) (n : Int) (l : List Int) : Option (Nat × Nat × Nat) → List AO
  | none => [.box T [.i n, .sl .i64 l], .box U [.nl]]
  | some (s, i, k) => [.box T [.i n, .sl .i64 l], .box U [.own 2], .row .i64 3 [(s : Int), (i : Int), (k : Int)]]
theorem vioH_ok {T U : TypeId} {n : Int} {l : List Int} {o : Option (Nat × Nat × Nat)} : (vioH T U n l o).all AO.outOkM = true ∧ (vioH T U n l o).all (AO.lt (vioH T U n l o).length) = true ∧ 2 ≤ (vioH T U n l o).length := by
  cases o with
  | none => exact ⟨rfl, rfl, Nat.le_refl _⟩
  | some x => obtain ⟨s, i, k⟩ := x; exact ⟨rfl, rfl, by simp [vioH]⟩
def tVisit : MTab
  | [.ag [.i n, .sl .i64 l], .fn 118 [.bp 0 0, .bp 1 0]], [.box T [.i n', .sl .i64 l'], .box U [.nl]] => some (fnV n l = true ∧ n' = n ∧ l' = l, .tu [], vioH T U n l (vioV n l))
  | _, _ => none
theorem visit_ok : FitsM Tryz.prog 117 tVisit := by
  refine ⟨?_⟩
  intro args L p out Ho h hp
  unfold tVisit at h
  split at h <;> cases h
  rename_i n l T n' l' U
  obtain ⟨hg, rfl, rfl⟩ := hp
  refine mok_by (env_ok2 (env := []) (envM := [(118, tVio1)]) (by simp) (by simp only [fmA, and_true]; exact vio1_ok)) (callable_of Tryz.func117 (by kernel_rfl) rfl) Tryz.func117 rfl rfl rfl vioH_ok.1 vioH_ok.2.1 vioH_ok.2.2 ?_
  intro hlen c hc hX
  simp only [lensIn, AV.lenIn, AV.lenOk, List.getElem?_cons_zero, List.getElem?_cons_succ, true_and, and_true] at hlen
  simp only [Tryz.ntmps117, Tryz.results117, lsA, List.replicate, Nat.reduceAdd, Nat.reduceSub]
  have hlen2 := fnV_len hg
  have hf := fnV_iff.1 hg
  repeat' first | ((with_reducible show aol _ _ _ _ _); first|(refine gF (by rfl) ?_ ?_; focus simp only [go_sem]; done)|(refine gU (by rfl) ?_ ?_; focus simp only [go_sem]; done))|((with_reducible refine hK _ ?_); clear hK K; try simp only [nx])|(with_reducible first|refine aS fun K hK => ?_|refine aB ?_|apply And.intro|exact True.intro)|((first|((with_reducible show aol _ _ _ _ _); try first|(refine gT (by rfl) ?_ ?_; focus simp only [go_sem]; done)|refine gB (by rfl) (by rfl) (fun h => ?_) (fun h => ?_) <;> (try simp only [hsX, reduceCtorEq] at h))|((with_reducible show Awp _ _ (Code.region _ _ _) _ _); first|refine rK (by repeat constructor) (fun K hK => ?_)|(refine dK (by kernel_rfl) (by repeat constructor) (fun K hK => ?_)))) <;> simp (maxSteps := 2000000) (disch := omega) only [go_sem, ↓reduceIte, Nat.reduceEqDiff, Nat.reduceAdd, Nat.reduceLT, Nat.reduceLeDiff, Nat.reduceSub])|((with_reducible show Awp _ _ (Code.cond _ _ _) _ _); refine aC rfl (fun h => ?_) (fun h => ?_) <;> (try simp only [hsX, reduceCtorEq] at h))|((with_reducible first|refine aK ?_|refine aR ?_); simp only [nx])|((with_reducible refine aE ?_); simp only [nx, ne_eq, not_false_eq_true, Nat.reduceEqDiff, reduceCtorEq]; try ((repeat ((fail_if_success refine hK _ ?_); clear hK K)); refine hK _ ?_; clear hK K))|((with_reducible first|show List.all _ _ = true|show lendOk _ _ = true); rfl)|omega|((with_reducible first|show ¬ _|show _ → _); intro h; first|contradiction|cases h; done|skip)
  all_goals (try (first|refine fK ?_|refine fM ?_; repeat clear hK))
  refine awp_for (fun st (s : Nat) => st.at [1, 2, 9] [(10, .i s)] st.hp) (fun s => s ≤ l'.length ∧ vioV n' l' = seek2 (vioS n' l') (l'.length - s) s) (fun s => l'.length - s) 0 ⟨by omega, rfl⟩ ?_ ?_
  · simp [-List.getD_eq_getElem?_getD, -List.length_take, Le, leFr, ASt.at, keepFr, updAll, upd_zero, upd_succ]
  rintro s ⟨hs, ha⟩
  simp only [ASt.at, keepFr, updAll, upd_zero, upd_succ, lgA, Nat.reduceEqDiff, Nat.reduceAdd, ↓reduceIte, eq_self]
  repeat' first | ((with_reducible show aol _ _ _ _ _); first|(refine gF (by rfl) ?_ ?_; focus simp only [go_sem]; done)|(refine gU (by rfl) ?_ ?_; focus simp only [go_sem]; done))|((with_reducible refine hK _ ?_); clear hK K; try simp only [nx])|(with_reducible first|refine aS fun K hK => ?_|refine aB ?_|apply And.intro|exact True.intro)|((first|((with_reducible show aol _ _ _ _ _); try first|(refine gT (by rfl) ?_ ?_; focus simp only [go_sem]; done)|refine gB (by rfl) (by rfl) (fun h => ?_) (fun h => ?_) <;> (try simp only [hsX, reduceCtorEq] at h))|((with_reducible show Awp _ _ (Code.region _ _ _) _ _); first|refine rK (by repeat constructor) (fun K hK => ?_)|(refine dK (by kernel_rfl) (by repeat constructor) (fun K hK => ?_)))) <;> simp (maxSteps := 2000000) (disch := omega) only [go_sem, ↓reduceIte, Nat.reduceEqDiff, Nat.reduceAdd, Nat.reduceLT, Nat.reduceLeDiff, Nat.reduceSub])|((with_reducible show Awp _ _ (Code.cond _ _ _) _ _); refine aC rfl (fun h => ?_) (fun h => ?_) <;> (try simp only [hsX, reduceCtorEq] at h))|((with_reducible first|refine aK ?_|refine aR ?_); simp only [nx])|((with_reducible refine aE ?_); simp only [nx, ne_eq, not_false_eq_true, Nat.reduceEqDiff, reduceCtorEq]; try ((repeat ((fail_if_success refine hK _ ?_); clear hK K)); refine hK _ ?_; clear hK K))|((with_reducible first|show List.all _ _ = true|show lendOk _ _ = true); rfl)|omega|((with_reducible first|show ¬ _|show _ → _); intro h; first|contradiction|cases h; done|skip)
  all_goals (try (first|refine fK ?_|refine fM ?_; repeat clear hK))
  · rw [seek2_at (by omega)] at ha
    refine awp_for (fun st (i : Nat) => st.at [1, 2, 4, 9, 10, 14] [(15, .i i)] st.hp) (fun i => i ≤ n'.toNat ∧ seek2 (vioI n' l' s) n'.toNat 0 = seek2 (vioI n' l' s) (n'.toNat - i) i) (fun i => n'.toNat - i) 0 ⟨by omega, rfl⟩ ?_ ?_
    · simp [-List.getD_eq_getElem?_getD, -List.length_take, Le, leFr, ASt.at, keepFr, updAll, upd_zero, upd_succ]
    rintro i ⟨hi, hb⟩
    simp only [ASt.at, keepFr, updAll, upd_zero, upd_succ, lgA, Nat.reduceEqDiff, Nat.reduceAdd, ↓reduceIte, eq_self]
    repeat' first | ((with_reducible show aol _ _ _ _ _); first|(refine gF (by rfl) ?_ ?_; focus simp only [go_sem]; done)|(refine gU (by rfl) ?_ ?_; focus simp only [go_sem]; done))|((with_reducible refine hK _ ?_); clear hK K; try simp only [nx])|(with_reducible first|refine aS fun K hK => ?_|refine aB ?_|apply And.intro|exact True.intro)|((first|((with_reducible show aol _ _ _ _ _); try first|(refine gT (by rfl) ?_ ?_; focus simp only [go_sem]; done)|refine gB (by rfl) (by rfl) (fun h => ?_) (fun h => ?_) <;> (try simp only [hsX, reduceCtorEq] at h))|((with_reducible show Awp _ _ (Code.region _ _ _) _ _); first|refine rK (by repeat constructor) (fun K hK => ?_)|(refine dK (by kernel_rfl) (by repeat constructor) (fun K hK => ?_)))) <;> simp (maxSteps := 2000000) (disch := omega) only [go_sem, ↓reduceIte, Nat.reduceEqDiff, Nat.reduceAdd, Nat.reduceLT, Nat.reduceLeDiff, Nat.reduceSub])|((with_reducible show Awp _ _ (Code.cond _ _ _) _ _); refine aC rfl (fun h => ?_) (fun h => ?_) <;> (try simp only [hsX, reduceCtorEq] at h))|((with_reducible first|refine aK ?_|refine aR ?_); simp only [nx])|((with_reducible refine aE ?_); simp only [nx, ne_eq, not_false_eq_true, Nat.reduceEqDiff, reduceCtorEq]; try ((repeat ((fail_if_success refine hK _ ?_); clear hK K)); refine hK _ ?_; clear hK K))|((with_reducible first|show List.all _ _ = true|show lendOk _ _ = true); rfl)|omega|((with_reducible first|show ¬ _|show _ → _); intro h; first|contradiction|cases h; done|skip)
    all_goals (try (first|refine fK ?_|refine fM ?_; repeat clear hK))
    · rw [seek2_at (by omega)] at hb
      refine awp_for (fun st (k : Nat) => st.at [1, 2, 4, 5, 9, 10, 14, 15] [(6, .i k)] st.hp) (fun k => i < k ∧ k ≤ n'.toNat ∧ seek (vioP l' s i) (n'.toNat - (i + 1)) (i + 1) = seek (vioP l' s i) (n'.toNat - k) k) (fun k => n'.toNat - k) (i + 1) ⟨by omega, by omega, rfl⟩ ?_ ?_
      · simp [-List.getD_eq_getElem?_getD, -List.length_take, Le, leFr, ASt.at, keepFr, updAll, upd_zero, upd_succ]
      rintro k ⟨hk1, hk, hc2⟩
      simp only [ASt.at, keepFr, updAll, upd_zero, upd_succ, lgA, Nat.reduceEqDiff, Nat.reduceAdd, ↓reduceIte, eq_self]
      have hvp : (k : Int) < n' → vioPre l' (s : Int) (i : Int) (k : Int) = True := fun h => eq_true ⟨n', hg, by omega, by omega, by omega⟩
      have hu1 := u64_id (n := (i : Int)) (by omega) (by omega)
      have hu2 := u64_id (n := (k : Int)) (by omega) (by omega)
      by_cases hex : 0 < excV l' (s : Int).toNat (i : Int).toNat (k : Int).toNat
      · have hy := fun T U n => tVio1_yes (s := s) (i := i) (k := k) (T := T) (U := U) (n := n) hex
        repeat' first | ((with_reducible show aol _ _ _ _ _); first|(refine gF (by rfl) ?_ ?_; focus simp only [go_sem]; done)|(refine gU (by rfl) ?_ ?_; focus simp only [go_sem]; done))|((with_reducible refine hK _ ?_); clear hK K; try simp only [nx])|(with_reducible first|refine aS fun K hK => ?_|refine aB ?_|apply And.intro|exact True.intro)|((first|((with_reducible show aol _ _ _ _ _); try first|(refine gT (by rfl) ?_ ?_; focus simp only [go_sem]; done)|refine gB (by rfl) (by rfl) (fun h => ?_) (fun h => ?_) <;> (try simp only [hsX, reduceCtorEq] at h))|((with_reducible show Awp _ _ (Code.region _ _ _) _ _); first|refine rK (by repeat constructor) (fun K hK => ?_)|(refine dK (by kernel_rfl) (by repeat constructor) (fun K hK => ?_)))) <;> simp (maxSteps := 2000000) (disch := omega) only [go_sem, ↓reduceIte, Nat.reduceEqDiff, Nat.reduceAdd, Nat.reduceLT, Nat.reduceLeDiff, Nat.reduceSub, hy, hvp, hu1, hu2])|((with_reducible show Awp _ _ (Code.cond _ _ _) _ _); refine aC rfl (fun h => ?_) (fun h => ?_) <;> (try simp only [hsX, reduceCtorEq] at h))|((with_reducible first|refine aK ?_|refine aR ?_); simp only [nx])|((with_reducible refine aE ?_); simp only [nx, ne_eq, not_false_eq_true, Nat.reduceEqDiff, reduceCtorEq]; try ((repeat ((fail_if_success refine hK _ ?_); clear hK K)); refine hK _ ?_; clear hK K))|((with_reducible first|show List.all _ _ = true|show lendOk _ _ = true); rfl)|omega|((with_reducible first|show ¬ _|show _ → _); intro h; first|contradiction|cases h; done|skip)
        all_goals (try (first|refine fK ?_|refine fM ?_; repeat clear hK))
        · rename_i h1 h2
          have hv : vioP l' s i k = true := by unfold vioP; rw [decide_eq_true h1, decide_eq_true h2, decide_eq_true (by simpa using hex)]; rfl
          rw [seek_at (m := n'.toNat) (k := k) (by omega), if_pos hv] at hc2
          have hi' : vioI n' l' s i = some (i, k) := by unfold vioI; rw [hc2]; rfl
          rw [hi'] at hb
          simp only at hb
          have hs' : vioS n' l' s = some (s, i, k) := by unfold vioS; rw [hb]; rfl
          rw [hs'] at ha
          simp only at ha
          rw [ha]; exact finm_0 [0, 1, 3] rfl rfl rfl
        · have hv : vioP l' s i k = false := Bool.eq_false_iff.2 fun hv => by
            simp only [vioP, Bool.and_eq_true, decide_eq_true_eq] at hv
            first | exact absurd hv.1 (by assumption) | exact absurd hv.2.1 (by assumption) | exact hex (by simpa using hv.2.2)
          rw [seek_at (m := n'.toNat) (k := k) (by omega), if_neg (by rw [hv]; decide)] at hc2
          refine ⟨k + 1, ⟨by omega, by omega, hc2⟩, by omega, ?_⟩
          simp [-List.getD_eq_getElem?_getD, -List.length_take, Le, leFr, ASt.at, keepFr, updAll, upd_zero, upd_succ]
        · have hv : vioP l' s i k = false := Bool.eq_false_iff.2 fun hv => by
            simp only [vioP, Bool.and_eq_true, decide_eq_true_eq] at hv
            first | exact absurd hv.1 (by assumption) | exact absurd hv.2.1 (by assumption) | exact hex (by simpa using hv.2.2)
          rw [seek_at (m := n'.toNat) (k := k) (by omega), if_neg (by rw [hv]; decide)] at hc2
          refine ⟨k + 1, ⟨by omega, by omega, hc2⟩, by omega, ?_⟩
          simp [-List.getD_eq_getElem?_getD, -List.length_take, Le, leFr, ASt.at, keepFr, updAll, upd_zero, upd_succ]
        · obtain rfl : k = n'.toNat := by omega
          rw [Nat.sub_self] at hc2
          have hi' : vioI n' l' s i = none := by unfold vioI; rw [hc2]; rfl
          rw [hi'] at hb
          simp only at hb
          refine ⟨i + 1, ⟨by omega, hb⟩, by omega, ?_⟩
          simp [-List.getD_eq_getElem?_getD, -List.length_take, Le, leFr, ASt.at, keepFr, updAll, upd_zero, upd_succ]
      · have hy := fun T U n => tVio1_no (s := s) (i := i) (k := k) (T := T) (U := U) (n := n) hex
        repeat' first | ((with_reducible show aol _ _ _ _ _); first|(refine gF (by rfl) ?_ ?_; focus simp only [go_sem]; done)|(refine gU (by rfl) ?_ ?_; focus simp only [go_sem]; done))|((with_reducible refine hK _ ?_); clear hK K; try simp only [nx])|(with_reducible first|refine aS fun K hK => ?_|refine aB ?_|apply And.intro|exact True.intro)|((first|((with_reducible show aol _ _ _ _ _); try first|(refine gT (by rfl) ?_ ?_; focus simp only [go_sem]; done)|refine gB (by rfl) (by rfl) (fun h => ?_) (fun h => ?_) <;> (try simp only [hsX, reduceCtorEq] at h))|((with_reducible show Awp _ _ (Code.region _ _ _) _ _); first|refine rK (by repeat constructor) (fun K hK => ?_)|(refine dK (by kernel_rfl) (by repeat constructor) (fun K hK => ?_)))) <;> simp (maxSteps := 2000000) (disch := omega) only [go_sem, ↓reduceIte, Nat.reduceEqDiff, Nat.reduceAdd, Nat.reduceLT, Nat.reduceLeDiff, Nat.reduceSub, hy, hvp, hu1, hu2])|((with_reducible show Awp _ _ (Code.cond _ _ _) _ _); refine aC rfl (fun h => ?_) (fun h => ?_) <;> (try simp only [hsX, reduceCtorEq] at h))|((with_reducible first|refine aK ?_|refine aR ?_); simp only [nx])|((with_reducible refine aE ?_); simp only [nx, ne_eq, not_false_eq_true, Nat.reduceEqDiff, reduceCtorEq]; try ((repeat ((fail_if_success refine hK _ ?_); clear hK K)); refine hK _ ?_; clear hK K))|((with_reducible first|show List.all _ _ = true|show lendOk _ _ = true); rfl)|omega|((with_reducible first|show ¬ _|show _ → _); intro h; first|contradiction|cases h; done|skip)
        all_goals (try (first|refine fK ?_|refine fM ?_; repeat clear hK))
        · have hv : vioP l' s i k = false := Bool.eq_false_iff.2 fun hv => by
            simp only [vioP, Bool.and_eq_true, decide_eq_true_eq] at hv
            first | exact absurd hv.1 (by assumption) | exact absurd hv.2.1 (by assumption) | exact hex (by simpa using hv.2.2)
          rw [seek_at (m := n'.toNat) (k := k) (by omega), if_neg (by rw [hv]; decide)] at hc2
          refine ⟨k + 1, ⟨by omega, by omega, hc2⟩, by omega, ?_⟩
          simp [-List.getD_eq_getElem?_getD, -List.length_take, Le, leFr, ASt.at, keepFr, updAll, upd_zero, upd_succ]
        · have hv : vioP l' s i k = false := Bool.eq_false_iff.2 fun hv => by
            simp only [vioP, Bool.and_eq_true, decide_eq_true_eq] at hv
            first | exact absurd hv.1 (by assumption) | exact absurd hv.2.1 (by assumption) | exact hex (by simpa using hv.2.2)
          rw [seek_at (m := n'.toNat) (k := k) (by omega), if_neg (by rw [hv]; decide)] at hc2
          refine ⟨k + 1, ⟨by omega, by omega, hc2⟩, by omega, ?_⟩
          simp [-List.getD_eq_getElem?_getD, -List.length_take, Le, leFr, ASt.at, keepFr, updAll, upd_zero, upd_succ]
        · have hv : vioP l' s i k = false := Bool.eq_false_iff.2 fun hv => by
            simp only [vioP, Bool.and_eq_true, decide_eq_true_eq] at hv
            first | exact absurd hv.1 (by assumption) | exact absurd hv.2.1 (by assumption) | exact hex (by simpa using hv.2.2)
          rw [seek_at (m := n'.toNat) (k := k) (by omega), if_neg (by rw [hv]; decide)] at hc2
          refine ⟨k + 1, ⟨by omega, by omega, hc2⟩, by omega, ?_⟩
          simp [-List.getD_eq_getElem?_getD, -List.length_take, Le, leFr, ASt.at, keepFr, updAll, upd_zero, upd_succ]
        · obtain rfl : k = n'.toNat := by omega
          rw [Nat.sub_self] at hc2
          have hi' : vioI n' l' s i = none := by unfold vioI; rw [hc2]; rfl
          rw [hi'] at hb
          simp only at hb
          refine ⟨i + 1, ⟨by omega, hb⟩, by omega, ?_⟩
          simp [-List.getD_eq_getElem?_getD, -List.length_take, Le, leFr, ASt.at, keepFr, updAll, upd_zero, upd_succ]
    · obtain rfl : i = n'.toNat := by omega
      rw [Nat.sub_self] at hb
      have hs' : vioS n' l' s = none := by unfold vioS; rw [hb]; rfl
      rw [hs'] at ha
      simp only at ha
      refine ⟨s + 1, ⟨by omega, ha⟩, by omega, ?_⟩
      simp [-List.getD_eq_getElem?_getD, -List.length_take, Le, leFr, ASt.at, keepFr, updAll, upd_zero, upd_succ]
  · obtain rfl : s = l'.length := by omega
    rw [Nat.sub_self] at ha
    have ha' : vioV n' l' = none := ha
    rw [ha']; exact finm_0 [0, 1] rfl rfl rfl
theorem implVio_ok : Fits Tryz.prog 106 tVio := by
  refine ⟨callable_of Tryz.func106 (by kernel_rfl) rfl, ?_⟩
  intro args p out Ho h hp
  unfold tVio at h
  split at h <;> cases h
  rename_i n l
  refine ⟨acall_by (env_ok2 (env := [(54, tIsFn)]) (envM := [(117, tVisit)]) (by simp only [fmA, and_true]; exact implIsFn_ok) (by simp only [fmA, and_true]; exact visit_ok)) Tryz.func106 rfl rfl rfl rfl rfl ?_, rfl, rfl⟩
  intro hlen c hc hX
  simp only [lensOk, AV.lenOk, true_and, and_true] at hlen
  simp only [Tryz.ntmps106, Tryz.results106, lsA, List.replicate, Nat.reduceAdd, Nat.reduceSub]
  cases hv : vioV n l with
  | none =>
    have hr := vio_none hv
    rw [hr.1, hr.2]
    repeat' first | ((with_reducible show aol _ _ _ _ _); first|(refine gF (by rfl) ?_ ?_; focus simp only [go_sem]; done)|(refine gU (by rfl) ?_ ?_; focus simp only [go_sem]; done))|((with_reducible refine hK _ ?_); clear hK K; try simp only [nx])|(with_reducible first|refine aS fun K hK => ?_|refine aB ?_|apply And.intro|exact True.intro)|((first|((with_reducible show aol _ _ _ _ _); try first|(refine gT (by rfl) ?_ ?_; focus simp only [go_sem]; done)|refine gB (by rfl) (by rfl) (fun h => ?_) (fun h => ?_) <;> (try simp only [hsX, reduceCtorEq] at h))|((with_reducible show Awp _ _ (Code.region _ _ _) _ _); first|refine rK (by repeat constructor) (fun K hK => ?_)|(refine dK (by kernel_rfl) (by repeat constructor) (fun K hK => ?_)))) <;> simp (maxSteps := 2000000) (disch := omega) only [go_sem, ↓reduceIte, Nat.reduceEqDiff, Nat.reduceAdd, Nat.reduceLT, Nat.reduceLeDiff, Nat.reduceSub, tIsFn, tVisit, hv, vioH])|((with_reducible show Awp _ _ (Code.cond _ _ _) _ _); refine aC rfl (fun h => ?_) (fun h => ?_) <;> (try simp only [hsX, reduceCtorEq] at h))|((with_reducible first|refine aK ?_|refine aR ?_); simp only [nx])|((with_reducible refine aE ?_); simp only [nx, ne_eq, not_false_eq_true, Nat.reduceEqDiff, reduceCtorEq]; try ((repeat ((fail_if_success refine hK _ ?_); clear hK K)); refine hK _ ?_; clear hK K))|((with_reducible first|show List.all _ _ = true|show lendOk _ _ = true); rfl)|omega|((with_reducible first|show ¬ _|show _ → _); intro h; first|contradiction|cases h; done|skip)
    all_goals (try (first|refine fK ?_|refine fM ?_; repeat clear hK))
    · exact fin_nlbV (by simp) (by decide) rfl rfl
    · exact fin_nlbV (by simp) (by decide) rfl rfl
  | some x =>
    obtain ⟨s, i, k⟩ := x
    repeat' first | ((with_reducible show aol _ _ _ _ _); first|(refine gF (by rfl) ?_ ?_; focus simp only [go_sem]; done)|(refine gU (by rfl) ?_ ?_; focus simp only [go_sem]; done))|((with_reducible refine hK _ ?_); clear hK K; try simp only [nx])|(with_reducible first|refine aS fun K hK => ?_|refine aB ?_|apply And.intro|exact True.intro)|((first|((with_reducible show aol _ _ _ _ _); try first|(refine gT (by rfl) ?_ ?_; focus simp only [go_sem]; done)|refine gB (by rfl) (by rfl) (fun h => ?_) (fun h => ?_) <;> (try simp only [hsX, reduceCtorEq] at h))|((with_reducible show Awp _ _ (Code.region _ _ _) _ _); first|refine rK (by repeat constructor) (fun K hK => ?_)|(refine dK (by kernel_rfl) (by repeat constructor) (fun K hK => ?_)))) <;> simp (maxSteps := 2000000) (disch := omega) only [go_sem, ↓reduceIte, Nat.reduceEqDiff, Nat.reduceAdd, Nat.reduceLT, Nat.reduceLeDiff, Nat.reduceSub, tIsFn, tVisit, hv, vioH])|((with_reducible show Awp _ _ (Code.cond _ _ _) _ _); refine aC rfl (fun h => ?_) (fun h => ?_) <;> (try simp only [hsX, reduceCtorEq] at h))|((with_reducible first|refine aK ?_|refine aR ?_); simp only [nx])|((with_reducible refine aE ?_); simp only [nx, ne_eq, not_false_eq_true, Nat.reduceEqDiff, reduceCtorEq]; try ((repeat ((fail_if_success refine hK _ ?_); clear hK K)); refine hK _ ?_; clear hK K))|((with_reducible first|show List.all _ _ = true|show lendOk _ _ = true); rfl)|omega|((with_reducible first|show ¬ _|show _ → _); intro h; first|contradiction|cases h; done|skip)
    all_goals (try (first|refine fK ?_|refine fM ?_; repeat clear hK))
    · have hr := vio_nofn h
      rw [hr.1, hr.2]; exact fin_nlbV (by simp) (by decide) rfl rfl
    · have hr := vio_some h hv
      rw [hr.1, hr.2]; exact fin_ownbV rfl rfl rfl
def subV (n : Int) (l : List Int) : Bool := fnV n l && !vioB n l
def tIsSub : Tab
  | [.ag [.i n, .sl .i64 l]] => some (True, .b (subV n l), [])
  | _ => none
theorem implIsSub_ok : Fits Tryz.prog 77 tIsSub := by
  refine ⟨callable_of Tryz.func77 (by kernel_rfl) rfl, ?_⟩
  intro args p out Ho h hp
  unfold tIsSub at h
  split at h <;> cases h
  rename_i n l
  refine ⟨acall_by (env_ok (env := [(106, tVio), (54, tIsFn)]) (by simp only [fmA, and_true]; exact ⟨implVio_ok, implIsFn_ok⟩)) Tryz.func77 rfl rfl rfl rfl rfl ?_, rfl, rfl⟩
  intro hlen c hc hX
  simp only [lensOk, AV.lenOk, true_and, and_true] at hlen
  simp only [Tryz.ntmps77, Tryz.results77, lsA, List.replicate, Nat.reduceAdd, Nat.reduceSub]
  repeat' first | ((with_reducible show aol _ _ _ _ _); first|(refine gF (by rfl) ?_ ?_; focus simp only [go_sem]; done)|(refine gU (by rfl) ?_ ?_; focus simp only [go_sem]; done))|((with_reducible refine hK _ ?_); clear hK K; try simp only [nx])|(with_reducible first|refine aS fun K hK => ?_|refine aB ?_|apply And.intro|exact True.intro)|((first|((with_reducible show aol _ _ _ _ _); try first|(refine gT (by rfl) ?_ ?_; focus simp only [go_sem]; done)|refine gB (by rfl) (by rfl) (fun h => ?_) (fun h => ?_) <;> (try simp only [hsX, reduceCtorEq] at h))|((with_reducible show Awp _ _ (Code.region _ _ _) _ _); first|refine rK (by repeat constructor) (fun K hK => ?_)|(refine dK (by kernel_rfl) (by repeat constructor) (fun K hK => ?_)))) <;> simp (maxSteps := 2000000) (disch := omega) only [go_sem, ↓reduceIte, Nat.reduceEqDiff, Nat.reduceAdd, Nat.reduceLT, Nat.reduceLeDiff, Nat.reduceSub, tVio, tIsFn])|((with_reducible show Awp _ _ (Code.cond _ _ _) _ _); refine aC rfl (fun h => ?_) (fun h => ?_) <;> (try simp only [hsX, reduceCtorEq] at h))|((with_reducible first|refine aK ?_|refine aR ?_); simp only [nx])|((with_reducible refine aE ?_); simp only [nx, ne_eq, not_false_eq_true, Nat.reduceEqDiff, reduceCtorEq]; try ((repeat ((fail_if_success refine hK _ ?_); clear hK K)); refine hK _ ?_; clear hK K))|((with_reducible first|show List.all _ _ = true|show lendOk _ _ = true); rfl)|omega|((with_reducible first|show ¬ _|show _ → _); intro h; first|contradiction|cases h; done|skip)
  all_goals (try (first|refine fK ?_|refine fM ?_; repeat clear hK))
  all_goals (refine fin_tmp rfl ?_; simp only [nth_zero, nth_succ, subV]; simp only [*, Bool.true_and, Bool.false_and, Bool.not_true, Bool.not_false])
theorem specIsSub_ok : Fits Tryz.prog 105 tIsSub := by
  refine ⟨callable_of Tryz.func105 (by kernel_rfl) rfl, ?_⟩
  intro args p out Ho h hp
  unfold tIsSub at h
  split at h <;> cases h
  rename_i n l
  refine ⟨acall_by (env_ok (env := [(116, tVio), (80, tIsFn)]) (by simp only [fmA, and_true]; exact ⟨specVio_ok, specIsFn_ok⟩)) Tryz.func105 rfl rfl rfl rfl rfl ?_, rfl, rfl⟩
  intro hlen c hc hX
  simp only [lensOk, AV.lenOk, true_and, and_true] at hlen
  simp only [Tryz.ntmps105, Tryz.results105, lsA, List.replicate, Nat.reduceAdd, Nat.reduceSub]
  repeat' first | ((with_reducible show aol _ _ _ _ _); first|(refine gF (by rfl) ?_ ?_; focus simp only [go_sem]; done)|(refine gU (by rfl) ?_ ?_; focus simp only [go_sem]; done))|((with_reducible refine hK _ ?_); clear hK K; try simp only [nx])|(with_reducible first|refine aS fun K hK => ?_|refine aB ?_|apply And.intro|exact True.intro)|((first|((with_reducible show aol _ _ _ _ _); try first|(refine gT (by rfl) ?_ ?_; focus simp only [go_sem]; done)|refine gB (by rfl) (by rfl) (fun h => ?_) (fun h => ?_) <;> (try simp only [hsX, reduceCtorEq] at h))|((with_reducible show Awp _ _ (Code.region _ _ _) _ _); first|refine rK (by repeat constructor) (fun K hK => ?_)|(refine dK (by kernel_rfl) (by repeat constructor) (fun K hK => ?_)))) <;> simp (maxSteps := 2000000) (disch := omega) only [go_sem, ↓reduceIte, Nat.reduceEqDiff, Nat.reduceAdd, Nat.reduceLT, Nat.reduceLeDiff, Nat.reduceSub, tVio, tIsFn])|((with_reducible show Awp _ _ (Code.cond _ _ _) _ _); refine aC rfl (fun h => ?_) (fun h => ?_) <;> (try simp only [hsX, reduceCtorEq] at h))|((with_reducible first|refine aK ?_|refine aR ?_); simp only [nx])|((with_reducible refine aE ?_); simp only [nx, ne_eq, not_false_eq_true, Nat.reduceEqDiff, reduceCtorEq]; try ((repeat ((fail_if_success refine hK _ ?_); clear hK K)); refine hK _ ?_; clear hK K))|((with_reducible first|show List.all _ _ = true|show lendOk _ _ = true); rfl)|omega|((with_reducible first|show ¬ _|show _ → _); intro h; first|contradiction|cases h; done|skip)
  all_goals (try (first|refine fK ?_|refine fM ?_; repeat clear hK))
  all_goals (refine fin_tmp rfl ?_; simp only [nth_zero, nth_succ, subV]; simp only [*, Bool.true_and, Bool.false_and, Bool.not_true, Bool.not_false])
def polV (n : Int) (l : List Int) : Bool := grV n l && ((fnV n l && incrV n l) && subV n l)
def tIsPol : Tab
  | [.ag [.i n, .sl .i64 l]] => some (True, .b (polV n l), [])
  | _ => none
theorem implIsPol_ok : Fits Tryz.prog 39 tIsPol := by
  refine ⟨callable_of Tryz.func39 (by kernel_rfl) rfl, ?_⟩
  intro args p out Ho h hp
  unfold tIsPol at h
  split at h <;> cases h
  rename_i n l
  refine ⟨acall_by (env_ok (env := [(75, tIsGr), (76, tIsInc), (77, tIsSub)]) (by simp only [fmA, and_true]; exact ⟨implIsGr_ok, implIsInc_ok, implIsSub_ok⟩)) Tryz.func39 rfl rfl rfl rfl rfl ?_, rfl, rfl⟩
  intro hlen c hc hX
  simp only [lensOk, AV.lenOk, true_and, and_true] at hlen
  simp only [Tryz.ntmps39, Tryz.results39, lsA, List.replicate, Nat.reduceAdd, Nat.reduceSub]
  repeat' first | ((with_reducible show aol _ _ _ _ _); first|(refine gF (by rfl) ?_ ?_; focus simp only [go_sem]; done)|(refine gU (by rfl) ?_ ?_; focus simp only [go_sem]; done))|((with_reducible refine hK _ ?_); clear hK K; try simp only [nx])|(with_reducible first|refine aS fun K hK => ?_|refine aB ?_|apply And.intro|exact True.intro)|((first|((with_reducible show aol _ _ _ _ _); try first|(refine gT (by rfl) ?_ ?_; focus simp only [go_sem]; done)|refine gB (by rfl) (by rfl) (fun h => ?_) (fun h => ?_) <;> (try simp only [hsX, reduceCtorEq] at h))|((with_reducible show Awp _ _ (Code.region _ _ _) _ _); first|refine rK (by repeat constructor) (fun K hK => ?_)|(refine dK (by kernel_rfl) (by repeat constructor) (fun K hK => ?_)))) <;> simp (maxSteps := 2000000) (disch := omega) only [go_sem, ↓reduceIte, Nat.reduceEqDiff, Nat.reduceAdd, Nat.reduceLT, Nat.reduceLeDiff, Nat.reduceSub, tIsGr, tIsInc, tIsSub])|((with_reducible show Awp _ _ (Code.cond _ _ _) _ _); refine aC rfl (fun h => ?_) (fun h => ?_) <;> (try simp only [hsX, reduceCtorEq] at h))|((with_reducible first|refine aK ?_|refine aR ?_); simp only [nx])|((with_reducible refine aE ?_); simp only [nx, ne_eq, not_false_eq_true, Nat.reduceEqDiff, reduceCtorEq]; try ((repeat ((fail_if_success refine hK _ ?_); clear hK K)); refine hK _ ?_; clear hK K))|((with_reducible first|show List.all _ _ = true|show lendOk _ _ = true); rfl)|omega|((with_reducible first|show ¬ _|show _ → _); intro h; first|contradiction|cases h; done|skip)
  all_goals (try (first|refine fK ?_|refine fM ?_; repeat clear hK))
  all_goals (refine fin_tmp rfl ?_; simp only [nth_zero, nth_succ, polV]; first | (simp [*]; done) | (rename_i h; rcases h with h | h <;> simp [h]) | (simp_all; done))
theorem specIsPol_ok : Fits Tryz.prog 74 tIsPol := by
  refine ⟨callable_of Tryz.func74 (by kernel_rfl) rfl, ?_⟩
  intro args p out Ho h hp
  unfold tIsPol at h
  split at h <;> cases h
  rename_i n l
  refine ⟨acall_by (env_ok (env := [(103, tIsGr), (104, tIsInc), (105, tIsSub)]) (by simp only [fmA, and_true]; exact ⟨specIsGr_ok, specIsInc_ok, specIsSub_ok⟩)) Tryz.func74 rfl rfl rfl rfl rfl ?_, rfl, rfl⟩
  intro hlen c hc hX
  simp only [lensOk, AV.lenOk, true_and, and_true] at hlen
  simp only [Tryz.ntmps74, Tryz.results74, lsA, List.replicate, Nat.reduceAdd, Nat.reduceSub]
  repeat' first | ((with_reducible show aol _ _ _ _ _); first|(refine gF (by rfl) ?_ ?_; focus simp only [go_sem]; done)|(refine gU (by rfl) ?_ ?_; focus simp only [go_sem]; done))|((with_reducible refine hK _ ?_); clear hK K; try simp only [nx])|(with_reducible first|refine aS fun K hK => ?_|refine aB ?_|apply And.intro|exact True.intro)|((first|((with_reducible show aol _ _ _ _ _); try first|(refine gT (by rfl) ?_ ?_; focus simp only [go_sem]; done)|refine gB (by rfl) (by rfl) (fun h => ?_) (fun h => ?_) <;> (try simp only [hsX, reduceCtorEq] at h))|((with_reducible show Awp _ _ (Code.region _ _ _) _ _); first|refine rK (by repeat constructor) (fun K hK => ?_)|(refine dK (by kernel_rfl) (by repeat constructor) (fun K hK => ?_)))) <;> simp (maxSteps := 2000000) (disch := omega) only [go_sem, ↓reduceIte, Nat.reduceEqDiff, Nat.reduceAdd, Nat.reduceLT, Nat.reduceLeDiff, Nat.reduceSub, tIsGr, tIsInc, tIsSub])|((with_reducible show Awp _ _ (Code.cond _ _ _) _ _); refine aC rfl (fun h => ?_) (fun h => ?_) <;> (try simp only [hsX, reduceCtorEq] at h))|((with_reducible first|refine aK ?_|refine aR ?_); simp only [nx])|((with_reducible refine aE ?_); simp only [nx, ne_eq, not_false_eq_true, Nat.reduceEqDiff, reduceCtorEq]; try ((repeat ((fail_if_success refine hK _ ?_); clear hK K)); refine hK _ ?_; clear hK K))|((with_reducible first|show List.all _ _ = true|show lendOk _ _ = true); rfl)|omega|((with_reducible first|show ¬ _|show _ → _); intro h; first|contradiction|cases h; done|skip)
  all_goals (try (first|refine fK ?_|refine fM ?_; repeat clear hK))
  all_goals (refine fin_tmp rfl ?_; simp only [nth_zero, nth_succ, polV]; first | (simp [*]; done) | (rename_i h; rcases h with h | h <;> simp [h]) | (simp_all; done))
theorem pol_fn {n : Int} {l : List Int} (h : polV n l = true) : fnV n l = true := by
  unfold polV at h; rw [Bool.and_eq_true, Bool.and_eq_true, Bool.and_eq_true] at h; exact h.2.1.1
def oneV (n : Int) (l : List Int) : Bool := (List.range n.toNat).all fun e => !decide (1 < l.getD (2 ^ e) 0)
def matV (n : Int) (l : List Int) : Bool := polV n l && oneV n l
def tIsMat : Tab
  | [.ag [.i n, .sl .i64 l]] => some (True, .b (matV n l), [])
  | _ => none
theorem implIsMat_ok : Fits Tryz.prog 9 tIsMat := by
  refine ⟨callable_of Tryz.func9 (by kernel_rfl) rfl, ?_⟩
  intro args p out Ho h hp
  unfold tIsMat at h
  split at h <;> cases h
  rename_i n l
  refine ⟨acall_by (env_ok (env := [(39, tIsPol)]) (by simp only [fmA, and_true]; exact implIsPol_ok)) Tryz.func9 rfl rfl rfl rfl rfl ?_, rfl, rfl⟩
  intro hlen c hc hX
  simp only [lensOk, AV.lenOk, true_and, and_true] at hlen
  simp only [Tryz.ntmps9, Tryz.results9, lsA, List.replicate, Nat.reduceAdd, Nat.reduceSub]
  repeat' first | ((with_reducible show aol _ _ _ _ _); first|(refine gF (by rfl) ?_ ?_; focus simp only [go_sem]; done)|(refine gU (by rfl) ?_ ?_; focus simp only [go_sem]; done))|((with_reducible refine hK _ ?_); clear hK K; try simp only [nx])|(with_reducible first|refine aS fun K hK => ?_|refine aB ?_|apply And.intro|exact True.intro)|((first|((with_reducible show aol _ _ _ _ _); try first|(refine gT (by rfl) ?_ ?_; focus simp only [go_sem]; done)|refine gB (by rfl) (by rfl) (fun h => ?_) (fun h => ?_) <;> (try simp only [hsX, reduceCtorEq] at h))|((with_reducible show Awp _ _ (Code.region _ _ _) _ _); first|refine rK (by repeat constructor) (fun K hK => ?_)|(refine dK (by kernel_rfl) (by repeat constructor) (fun K hK => ?_)))) <;> simp (maxSteps := 2000000) (disch := omega) only [go_sem, ↓reduceIte, Nat.reduceEqDiff, Nat.reduceAdd, Nat.reduceLT, Nat.reduceLeDiff, Nat.reduceSub, tIsPol])|((with_reducible show Awp _ _ (Code.cond _ _ _) _ _); refine aC rfl (fun h => ?_) (fun h => ?_) <;> (try simp only [hsX, reduceCtorEq] at h))|((with_reducible first|refine aK ?_|refine aR ?_); simp only [nx])|((with_reducible refine aE ?_); simp only [nx, ne_eq, not_false_eq_true, Nat.reduceEqDiff, reduceCtorEq]; try ((repeat ((fail_if_success refine hK _ ?_); clear hK K)); refine hK _ ?_; clear hK K))|((with_reducible first|show List.all _ _ = true|show lendOk _ _ = true); rfl)|omega|((with_reducible first|show ¬ _|show _ → _); intro h; first|contradiction|cases h; done|skip)
  all_goals (try (first|refine fK ?_|refine fM ?_; repeat clear hK))
  · refine fin_tmp rfl ?_; simp only [nth_zero, nth_succ]; rw [matV, h, Bool.false_and]
  have hg := h
  have hfn := pol_fn hg
  have hlen2 := fnV_len hfn
  have hf := fnV_iff.1 hfn
  refine awp_for (fun st (e : Nat) => st.at [1, 8] [(9, .i e)] st.hp) (fun e => e ≤ n.toNat ∧ (List.range e).all (fun e => !decide (1 < l.getD (2 ^ e) 0)) = true) (fun e => n.toNat - e) 0 ⟨by omega, by simp⟩ ?_ ?_
  · simp [-List.getD_eq_getElem?_getD, -List.length_take, Le, leFr, ASt.at, keepFr, updAll, upd_zero, upd_succ]
  rintro e ⟨he, ha⟩
  simp only [ASt.at, keepFr, updAll, upd_zero, upd_succ, lgA, Nat.reduceEqDiff, Nat.reduceAdd, ↓reduceIte, eq_self]
  have hu := u64_id (n := (e : Int)) (by omega) (by omega)
  have hsh : (e : Int) < n → ishl 1 (e : Int) = ((2 ^ e : Nat) : Int) := fun h => by rw [ishl_one (by omega) (by omega), Int.toNat_natCast, pow_nat]
  have hp0 : (0 : Int) ≤ ((2 ^ e : Nat) : Int) := Int.natCast_nonneg _
  have hlt : (e : Int) < n → ((2 ^ e : Nat) : Int) < (l.length : Int) := fun h => by have := Nat.pow_lt_pow_right (a := 2) (by omega) (show e < n.toNat by omega); omega
  repeat' first | ((with_reducible show aol _ _ _ _ _); first|(refine gF (by rfl) ?_ ?_; focus simp only [go_sem]; done)|(refine gU (by rfl) ?_ ?_; focus simp only [go_sem]; done))|((with_reducible refine hK _ ?_); clear hK K; try simp only [nx])|(with_reducible first|refine aS fun K hK => ?_|refine aB ?_|apply And.intro|exact True.intro)|((first|((with_reducible show aol _ _ _ _ _); try first|(refine gT (by rfl) ?_ ?_; focus simp only [go_sem]; done)|refine gB (by rfl) (by rfl) (fun h => ?_) (fun h => ?_) <;> (try simp only [hsX, reduceCtorEq] at h))|((with_reducible show Awp _ _ (Code.region _ _ _) _ _); first|refine rK (by repeat constructor) (fun K hK => ?_)|(refine dK (by kernel_rfl) (by repeat constructor) (fun K hK => ?_)))) <;> simp (maxSteps := 2000000) (disch := omega) only [go_sem, ↓reduceIte, Nat.reduceEqDiff, Nat.reduceAdd, Nat.reduceLT, Nat.reduceLeDiff, Nat.reduceSub, hu, hsh])|((with_reducible show Awp _ _ (Code.cond _ _ _) _ _); refine aC rfl (fun h => ?_) (fun h => ?_) <;> (try simp only [hsX, reduceCtorEq] at h))|((with_reducible first|refine aK ?_|refine aR ?_); simp only [nx])|((with_reducible refine aE ?_); simp only [nx, ne_eq, not_false_eq_true, Nat.reduceEqDiff, reduceCtorEq]; try ((repeat ((fail_if_success refine hK _ ?_); clear hK K)); refine hK _ ?_; clear hK K))|((with_reducible first|show List.all _ _ = true|show lendOk _ _ = true); rfl)|omega|((with_reducible first|show ¬ _|show _ → _); intro h; first|contradiction|cases h; done|skip)
  all_goals (try (first|refine fK ?_|refine fM ?_; repeat clear hK))
  · refine fin_tmp rfl ?_; simp only [nth_zero, nth_succ]
    rw [matV, oneV, allR_no (k := e) (by omega) (by rw [decide_eq_true h]; rfl), Bool.and_false]
  · refine ⟨e + 1, ⟨by omega, allR_succ ha (by rw [decide_eq_false (by omega)]; rfl)⟩, by omega, ?_⟩
    simp [-List.getD_eq_getElem?_getD, -List.length_take, Le, leFr, ASt.at, keepFr, updAll, upd_zero, upd_succ]
  · obtain rfl : e = n.toNat := by omega
    refine fin_tmp rfl ?_; simp only [nth_zero, nth_succ]; rw [matV, hg, oneV, ha]; rfl
theorem specIsMat_ok : Fits Tryz.prog 36 tIsMat := by
  refine ⟨callable_of Tryz.func36 (by kernel_rfl) rfl, ?_⟩
  intro args p out Ho h hp
  unfold tIsMat at h
  split at h <;> cases h
  rename_i n l
  refine ⟨acall_by (env_ok (env := [(74, tIsPol)]) (by simp only [fmA, and_true]; exact specIsPol_ok)) Tryz.func36 rfl rfl rfl rfl rfl ?_, rfl, rfl⟩
  intro hlen c hc hX
  simp only [lensOk, AV.lenOk, true_and, and_true] at hlen
  simp only [Tryz.ntmps36, Tryz.results36, lsA, List.replicate, Nat.reduceAdd, Nat.reduceSub]
  repeat' first | ((with_reducible show aol _ _ _ _ _); first|(refine gF (by rfl) ?_ ?_; focus simp only [go_sem]; done)|(refine gU (by rfl) ?_ ?_; focus simp only [go_sem]; done))|((with_reducible refine hK _ ?_); clear hK K; try simp only [nx])|(with_reducible first|refine aS fun K hK => ?_|refine aB ?_|apply And.intro|exact True.intro)|((first|((with_reducible show aol _ _ _ _ _); try first|(refine gT (by rfl) ?_ ?_; focus simp only [go_sem]; done)|refine gB (by rfl) (by rfl) (fun h => ?_) (fun h => ?_) <;> (try simp only [hsX, reduceCtorEq] at h))|((with_reducible show Awp _ _ (Code.region _ _ _) _ _); first|refine rK (by repeat constructor) (fun K hK => ?_)|(refine dK (by kernel_rfl) (by repeat constructor) (fun K hK => ?_)))) <;> simp (maxSteps := 2000000) (disch := omega) only [go_sem, ↓reduceIte, Nat.reduceEqDiff, Nat.reduceAdd, Nat.reduceLT, Nat.reduceLeDiff, Nat.reduceSub, tIsPol])|((with_reducible show Awp _ _ (Code.cond _ _ _) _ _); refine aC rfl (fun h => ?_) (fun h => ?_) <;> (try simp only [hsX, reduceCtorEq] at h))|((with_reducible first|refine aK ?_|refine aR ?_); simp only [nx])|((with_reducible refine aE ?_); simp only [nx, ne_eq, not_false_eq_true, Nat.reduceEqDiff, reduceCtorEq]; try ((repeat ((fail_if_success refine hK _ ?_); clear hK K)); refine hK _ ?_; clear hK K))|((with_reducible first|show List.all _ _ = true|show lendOk _ _ = true); rfl)|omega|((with_reducible first|show ¬ _|show _ → _); intro h; first|contradiction|cases h; done|skip)
  all_goals (try (first|refine fK ?_|refine fM ?_; repeat clear hK))
  cases hg : polV n l with
  | false =>
    refine awp_for (fun st (_ : Nat) => st.at [1] [(3, .i 0)] st.hp) (fun _ => True) (fun _ => 0) 0 trivial ?_ ?_
    · simp [-List.getD_eq_getElem?_getD, -List.length_take, Le, leFr, ASt.at, keepFr, updAll, upd_zero, upd_succ]
    rintro e _
    simp only [ASt.at, keepFr, updAll, upd_zero, upd_succ, lgA, Nat.reduceEqDiff, Nat.reduceAdd, ↓reduceIte, eq_self]
    repeat' first | ((with_reducible show aol _ _ _ _ _); first|(refine gF (by rfl) ?_ ?_; focus simp only [go_sem]; done)|(refine gU (by rfl) ?_ ?_; focus simp only [go_sem]; done))|((with_reducible refine hK _ ?_); clear hK K; try simp only [nx])|(with_reducible first|refine aS fun K hK => ?_|refine aB ?_|apply And.intro|exact True.intro)|((first|((with_reducible show aol _ _ _ _ _); try first|(refine gT (by rfl) ?_ ?_; focus simp only [go_sem]; done)|refine gB (by rfl) (by rfl) (fun h => ?_) (fun h => ?_) <;> (try simp only [hsX, reduceCtorEq] at h))|((with_reducible show Awp _ _ (Code.region _ _ _) _ _); first|refine rK (by repeat constructor) (fun K hK => ?_)|(refine dK (by kernel_rfl) (by repeat constructor) (fun K hK => ?_)))) <;> simp (maxSteps := 2000000) (disch := omega) only [go_sem, ↓reduceIte, Nat.reduceEqDiff, Nat.reduceAdd, Nat.reduceLT, Nat.reduceLeDiff, Nat.reduceSub, tIsPol, hg])|((with_reducible show Awp _ _ (Code.cond _ _ _) _ _); refine aC rfl (fun h => ?_) (fun h => ?_) <;> (try simp only [hsX, reduceCtorEq] at h))|((with_reducible first|refine aK ?_|refine aR ?_); simp only [nx])|((with_reducible refine aE ?_); simp only [nx, ne_eq, not_false_eq_true, Nat.reduceEqDiff, reduceCtorEq]; try ((repeat ((fail_if_success refine hK _ ?_); clear hK K)); refine hK _ ?_; clear hK K))|((with_reducible first|show List.all _ _ = true|show lendOk _ _ = true); rfl)|omega|((with_reducible first|show ¬ _|show _ → _); intro h; first|contradiction|cases h; done|skip)
    all_goals (try (first|refine fK ?_|refine fM ?_; repeat clear hK))
    refine fin_tmp rfl ?_; simp only [nth_zero, nth_succ]; rw [matV, hg, Bool.false_and]
  | true =>
    have hfn := pol_fn hg
    have hlen2 := fnV_len hfn
    have hf := fnV_iff.1 hfn
    refine awp_for (fun st (e : Nat) => st.at [1] [(3, .i e)] st.hp) (fun e => e ≤ n.toNat ∧ (List.range e).all (fun e => !decide (1 < l.getD (2 ^ e) 0)) = true) (fun e => n.toNat - e) 0 ⟨by omega, by simp⟩ ?_ ?_
    · simp [-List.getD_eq_getElem?_getD, -List.length_take, Le, leFr, ASt.at, keepFr, updAll, upd_zero, upd_succ]
    rintro e ⟨he, ha⟩
    simp only [ASt.at, keepFr, updAll, upd_zero, upd_succ, lgA, Nat.reduceEqDiff, Nat.reduceAdd, ↓reduceIte, eq_self]
    have hu := u64_id (n := (e : Int)) (by omega) (by omega)
    have hsh : (e : Int) < n → ishl 1 (e : Int) = ((2 ^ e : Nat) : Int) := fun h => by rw [ishl_one (by omega) (by omega), Int.toNat_natCast, pow_nat]
    have hp0 : (0 : Int) ≤ ((2 ^ e : Nat) : Int) := Int.natCast_nonneg _
    have hlt : (e : Int) < n → ((2 ^ e : Nat) : Int) < (l.length : Int) := fun h => by have := Nat.pow_lt_pow_right (a := 2) (by omega) (show e < n.toNat by omega); omega
    repeat' first | ((with_reducible show aol _ _ _ _ _); first|(refine gF (by rfl) ?_ ?_; focus simp only [go_sem]; done)|(refine gU (by rfl) ?_ ?_; focus simp only [go_sem]; done))|((with_reducible refine hK _ ?_); clear hK K; try simp only [nx])|(with_reducible first|refine aS fun K hK => ?_|refine aB ?_|apply And.intro|exact True.intro)|((first|((with_reducible show aol _ _ _ _ _); try first|(refine gT (by rfl) ?_ ?_; focus simp only [go_sem]; done)|refine gB (by rfl) (by rfl) (fun h => ?_) (fun h => ?_) <;> (try simp only [hsX, reduceCtorEq] at h))|((with_reducible show Awp _ _ (Code.region _ _ _) _ _); first|refine rK (by repeat constructor) (fun K hK => ?_)|(refine dK (by kernel_rfl) (by repeat constructor) (fun K hK => ?_)))) <;> simp (maxSteps := 2000000) (disch := omega) only [go_sem, ↓reduceIte, Nat.reduceEqDiff, Nat.reduceAdd, Nat.reduceLT, Nat.reduceLeDiff, Nat.reduceSub, tIsPol, hg, hu, hsh])|((with_reducible show Awp _ _ (Code.cond _ _ _) _ _); refine aC rfl (fun h => ?_) (fun h => ?_) <;> (try simp only [hsX, reduceCtorEq] at h))|((with_reducible first|refine aK ?_|refine aR ?_); simp only [nx])|((with_reducible refine aE ?_); simp only [nx, ne_eq, not_false_eq_true, Nat.reduceEqDiff, reduceCtorEq]; try ((repeat ((fail_if_success refine hK _ ?_); clear hK K)); refine hK _ ?_; clear hK K))|((with_reducible first|show List.all _ _ = true|show lendOk _ _ = true); rfl)|omega|((with_reducible first|show ¬ _|show _ → _); intro h; first|contradiction|cases h; done|skip)
    all_goals (try (first|refine fK ?_|refine fM ?_; repeat clear hK))
    · refine fin_tmp rfl ?_; simp only [nth_zero, nth_succ]
      rw [matV, oneV, allR_no (k := e) (by omega) (by rw [decide_eq_true h]; rfl), Bool.and_false]
    · refine ⟨e + 1, ⟨by omega, allR_succ ha (by rw [decide_eq_false (by omega)]; rfl)⟩, by omega, ?_⟩
      simp [-List.getD_eq_getElem?_getD, -List.length_take, Le, leFr, ASt.at, keepFr, updAll, upd_zero, upd_succ]
    · obtain rfl : e = n.toNat := by omega
      refine fin_tmp rfl ?_; simp only [nth_zero, nth_succ]; rw [matV, hg, oneV, ha]; rfl
end Go.Proofs.YthoionlldmfpiaaGreat
