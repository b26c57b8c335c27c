import Derived.Test.YtjlpjkiadohkiaaT59
import Derived.Test.YtjlpjkiadohkiaaHs
import Derived.Test.YtjlpjkiadohkiaaT35
set_option linter.unusedSimpArgs false
set_option linter.unusedVariables false
set_option maxHeartbeats 2000000
namespace Go.Proofs.Ytjlpjkiadohkiaa
open Go Go.Ab
attribute [local irreducible] aol
attribute [local irreducible] popN


def edD (b : List Int) (n : Int) : Nat → List (Int × Int × Int) → Nat × Int → List (Int × Int × Int) × (Nat × Int)
  | 0, L, s => (L, s)
  | k + 1, L, s => edD b n k (L ++ [(belowX b n s, belowX b n (belowS b n s), belowX b 4 (belowS b n (belowS b n s)))]) (belowS b 4 (belowS b n (belowS b n s)))
def edG (n : Int) (L : List (Int × Int × Int)) : Prop := ∀ e, e ∈ L → (0 ≤ e.1 ∧ e.1 < n) ∧ (0 ≤ e.2.1 ∧ e.2.1 < n) ∧ (0 ≤ e.2.2 ∧ e.2.2 < 4)
theorem edG_snoc {b : List Int} {n : Int} (hn : 0 < n) {L : List (Int × Int × Int)} (h : edG n L) (s : Nat × Int) : edG n (L ++ [(belowX b n s, belowX b n (belowS b n s), belowX b 4 (belowS b n (belowS b n s)))]) := by
  intro e he
  rcases List.mem_append.1 he with he | he
  · exact h e he
  · rw [List.mem_singleton.1 he]
    exact ⟨belowX_bd b hn _, belowX_bd b hn _, (belowX_bd b (show (0 : Int) < 4 by omega) _)⟩
theorem edG_ok {n : Int} (hn : 0 ≤ n ∧ n ≤ 5) {L : List (Int × Int × Int)} (h : edG n L) (hl : L.length ≤ 20) : cutOk n (L.map edgC) = true := by
  unfold cutOk
  have h1 : inR n 0 5 = true := by rw [inR_iff]; exact hn
  have h2 : edgV n (L.map edgC) = true := by
    refine edgV_iff.2 ⟨fun i hi => ?_, by rw [List.length_map]; exact hl⟩
    rw [List.length_map] at hi
    have e : (L.map edgC).getD i [] = edgC L[i] := by rw [List.getD_eq_getElem?_getD, List.getElem?_map, List.getElem?_eq_getElem hi]; rfl
    have e0 : cellI (L.map edgC) i 0 = L[i].1 := by unfold cellI; rw [e]; rfl
    have e1 : cellI (L.map edgC) i 1 = L[i].2.1 := by unfold cellI; rw [e]; rfl
    have e2 : cellI (L.map edgC) i 2 = L[i].2.2 := by unfold cellI; rw [e]; rfl
    have hg := h L[i] (List.getElem_mem hi)
    unfold edgP
    rw [e0, e1, e2, h1, Bool.true_and, Bool.and_eq_true, Bool.and_eq_true, inR_iff, inR_iff, inR_iff]
    omega
  rw [h1, h2]; rfl
def l14H (b : List Int) (s : Nat × Int) : Nat × Int := belowS b 6 s
def l14M (b : List Int) (s : Nat × Int) : Int := 2 + belowX b 4 (l14H b s)
def l14K (b : List Int) (s : Nat × Int) : Int := belowX b 8 (belowS b 4 (l14H b s))
def l14E (b : List Int) (s : Nat × Int) : List (Int × Int × Int) × (Nat × Int) := edD b (l14M b s) (l14K b s).toNat [] (belowS b 8 (belowS b 4 (l14H b s)))
def l14N (b : List Int) (s : Nat × Int) : Int := if onceX b 6 s = true then l2AN b (l14H b s) else l14M b s
def l14L (b : List Int) (s : Nat × Int) : List Int := if onceX b 6 s = true then l2AL b (l14H b s) else cutL ((l14E b s).1.map edgC) (2 ^ (l14M b s).toNat)
def l14S (b : List Int) (s : Nat × Int) : Nat × Int := if onceX b 6 s = true then l2AS b (l14H b s) else (l14E b s).2
theorem l14M_bd (b : List Int) (s : Nat × Int) : 2 ≤ l14M b s ∧ l14M b s ≤ 5 := by
  have := belowX_bd b (n := 4) (by omega) (l14H b s)
  unfold l14M; omega
theorem l14L_len (b : List Int) (s : Nat × Int) : (l14L b s).length ≤ 64 := by
  unfold l14L; split
  · exact (l2AL_len b _).2
  · have := l14M_bd b s
    rw [cutL_len]; exact pow_le6 ⟨by omega, by omega⟩
def tL14 : MTab
  | [.bp 0 0], [.box T [.sl .u8 b, .i i, .i h]] => some (0 ≤ i ∧ b.length ≤ 1048576, .ag [.i (l14N b (i.toNat, h)), .own 1],
      [.box T [.sl .u8 b, .i ((l14S b (i.toNat, h)).1 : Int), .i (l14S b (i.toNat, h)).2], .row .i64 3 (l14L b (i.toNat, h))])
  | _, _ => none
theorem l14_ok : FitsM Try.prog 154 tL14 := by
  refine ⟨?_⟩
  intro args L p out Ho h hp
  unfold tL14 at h
  split at h <;> cases h
  rename_i T b i h
  refine mok_by (env_ok2 (env := [(68, tCutF)]) (envM := [(185, tL2A), (159, tBel), (165, tOnc)]) (by simp only [List.forall_mem_cons, List.not_mem_nil, false_implies, implies_true, and_true]; exact specCutF_ok) (by simp only [List.forall_mem_cons, List.not_mem_nil, false_implies, implies_true, and_true]; exact ⟨l2A_ok, bel_ok, onc_ok⟩)) (callable_of Try.func154 (by kernel_rfl) rfl) Try.func154 rfl rfl rfl rfl rfl (by simp) ?_
  intro hlen c hc hX
  simp only [lensIn, AV.lenIn, AV.lenOk, List.getElem?_cons_zero, List.getElem?_cons_succ, true_and, and_true] at hlen
  simp only [Try.ntmps154, Try.results154, List.length_cons, List.length_nil, List.replicate, List.cons_append, List.nil_append, Nat.reduceAdd, Nat.reduceSub]
  obtain ⟨hi, hb⟩ := hp
  obtain ⟨i, rfl⟩ := Int.eq_ofNat_of_zero_le hi
  rw [Int.toNat_natCast]
  generalize hs : ((i, h) : Nat × Int) = s0
  have e1 : i = s0.1 := by rw [← hs]
  have e2 : h = s0.2 := by rw [← hs]
  subst e1 e2
  have fH : belowS b 6 s0 = l14H b s0 := rfl
  have fM : 2 + belowX b 4 (l14H b s0) = l14M b s0 := rfl
  have fK : belowX b 8 (belowS b 4 (l14H b s0)) = l14K b s0 := rfl
  have h4 := belowX_bd b (n := 4) (by omega) (l14H b s0)
  have hm := l14M_bd b s0
  have hk : 0 ≤ l14K b s0 ∧ l14K b s0 < 8 := belowX_bd b (by omega) _
  cases ho : onceX b 6 s0 with
  | true =>
    have eN : l14N b s0 = l2AN b (l14H b s0) := if_pos ho
    have eL : l14L b s0 = l2AL b (l14H b s0) := if_pos ho
    have eS : l14S b s0 = l2AS b (l14H b s0) := if_pos ho
    have hll := l2AL_len b (l14H b s0)
    rw [eN, eL, eS]
    repeat' first | ((with_reducible show aol _ _ _ _ _); first | (refine aol_guard_f (by rfl) ?_ ?_; (focus (simp only [go_sem]; done))) | (refine aol_guard_un (by rfl) ?_ ?_; (focus (simp only [go_sem]; done))) | ((first | (refine aol_guard_t (by rfl) ?_ ?_; (focus (simp only [go_sem]; done))) | (refine aol_guard_b (by rfl) (by rfl) (fun h => ?_) (fun h => ?_) <;> (try simp only [hsA, hsB, hsC, hsD, List.all_cons, List.all_nil, ne_eq, reduceCtorEq, inR_iff, inR_not, isSet_iff, isSet_not] at h))) <;> simp (config := { maxSteps := 2000000 }) (disch := omega) only [go_sem, ↓reduceIte, Nat.reduceEqDiff, Nat.reduceAdd, Nat.reduceLT, Nat.reduceLeDiff, Nat.reduceSub, tOnc, tL2A, pr_eta, ho, fH]) | simp (config := { maxSteps := 2000000 }) (disch := omega) only [go_sem, ↓reduceIte, Nat.reduceEqDiff, Nat.reduceAdd, Nat.reduceLT, Nat.reduceLeDiff, Nat.reduceSub, tOnc, tL2A, pr_eta, ho, fH]) | ((with_reducible refine hK _ ?_); clear hK K; try simp only [thn_n, blk_n, fin_n, finm_n]) | (with_reducible refine awp_seq fun K hK => ?_) | ((with_reducible show Awp _ _ (Code.region _ _ _) _ _); (first | refine awp_regK (by repeat constructor) (fun K hK => ?_) | (refine awp_drwK (by kernel_rfl) (by repeat constructor) (fun K hK => ?_))); simp (config := { maxSteps := 2000000 }) (disch := omega) only [go_sem, ↓reduceIte, Nat.reduceEqDiff, Nat.reduceAdd, Nat.reduceLT, Nat.reduceLeDiff, Nat.reduceSub, tOnc, tL2A, pr_eta, ho, fH]) | ((with_reducible show Awp _ _ (Code.cond _ _ _) _ _); refine awp_cond rfl (fun h => ?_) (fun h => ?_) <;> (try simp only [hsA, hsB, hsC, hsD, List.all_cons, List.all_nil, ne_eq, reduceCtorEq, inR_iff, inR_not, isSet_iff, isSet_not] at h)) | ((with_reducible refine awp_skip ?_); simp only [thn_n, blk_n, fin_n, finm_n]) | ((with_reducible refine awp_ret ?_); simp only [thn_r, blk_r, fin_r, finm_r]) | (with_reducible refine awp_block ?_) | ((with_reducible refine awp_exit ?_); simp only [thn_e, blk_e, blk_x, blk_n, thn_n, ne_eq, not_false_eq_true, Nat.reduceEqDiff, reduceCtorEq]; first | (refine hK _ ?_; clear hK K) | (clear hK K; refine hK _ ?_; clear hK K) | (clear hK K; clear hK K; refine hK _ ?_; clear hK K) | (clear hK K; clear hK K; clear hK K; refine hK _ ?_; clear hK K) | skip) | (with_reducible apply And.intro) | (with_reducible exact True.intro) | ((with_reducible show List.all _ _ = true); rfl) | ((with_reducible show lendOk _ _ = true); rfl) | omega | ((first | (with_reducible show ¬ _) | (with_reducible show _ → _)); intro h; first | contradiction | cases h; done | skip)
    all_goals (try (first | refine fin_keep ?_ | refine finm_keep ?_; repeat clear hK))
    exact finm_pairS (d := tPair) (j := 2) (b := 1) [0, 2] rfl rfl rfl rfl rfl rfl rfl rfl rfl
  | false =>
    have hof : ¬ onceX b 6 s0 = true := by rw [ho]; simp
    have eN : l14N b s0 = l14M b s0 := if_neg hof
    have eL : l14L b s0 = cutL ((l14E b s0).1.map edgC) (2 ^ (l14M b s0).toNat) := if_neg hof
    have eS : l14S b s0 = (l14E b s0).2 := if_neg hof
    rw [eN, eL, eS]
    obtain ⟨k0, hk0⟩ := Int.eq_ofNat_of_zero_le hk.1
    obtain ⟨m, hmm⟩ : ∃ m, l14M b s0 = m := ⟨_, rfl⟩
    rw [hmm] at hm ⊢
    repeat' first | ((with_reducible show aol _ _ _ _ _); first | (refine aol_guard_f (by rfl) ?_ ?_; (focus (simp only [go_sem]; done))) | (refine aol_guard_un (by rfl) ?_ ?_; (focus (simp only [go_sem]; done))) | ((first | (refine aol_guard_t (by rfl) ?_ ?_; (focus (simp only [go_sem]; done))) | (refine aol_guard_b (by rfl) (by rfl) (fun h => ?_) (fun h => ?_) <;> (try simp only [hsA, hsB, hsC, hsD, List.all_cons, List.all_nil, ne_eq, reduceCtorEq, inR_iff, inR_not, isSet_iff, isSet_not] at h))) <;> simp (config := { maxSteps := 2000000 }) (disch := omega) only [go_sem, ↓reduceIte, Nat.reduceEqDiff, Nat.reduceAdd, Nat.reduceLT, Nat.reduceLeDiff, Nat.reduceSub, tOnc, tBel, pr_eta, ho, fH, fM, fK, hmm]) | simp (config := { maxSteps := 2000000 }) (disch := omega) only [go_sem, ↓reduceIte, Nat.reduceEqDiff, Nat.reduceAdd, Nat.reduceLT, Nat.reduceLeDiff, Nat.reduceSub, tOnc, tBel, pr_eta, ho, fH, fM, fK, hmm]) | ((with_reducible refine hK _ ?_); clear hK K; try simp only [thn_n, blk_n, fin_n, finm_n]) | (with_reducible refine awp_seq fun K hK => ?_) | ((with_reducible show Awp _ _ (Code.region _ _ _) _ _); (first | refine awp_regK (by repeat constructor) (fun K hK => ?_) | (refine awp_drwK (by kernel_rfl) (by repeat constructor) (fun K hK => ?_))); simp (config := { maxSteps := 2000000 }) (disch := omega) only [go_sem, ↓reduceIte, Nat.reduceEqDiff, Nat.reduceAdd, Nat.reduceLT, Nat.reduceLeDiff, Nat.reduceSub, tOnc, tBel, pr_eta, ho, fH, fM, fK, hmm]) | ((with_reducible show Awp _ _ (Code.cond _ _ _) _ _); refine awp_cond rfl (fun h => ?_) (fun h => ?_) <;> (try simp only [hsA, hsB, hsC, hsD, List.all_cons, List.all_nil, ne_eq, reduceCtorEq, inR_iff, inR_not, isSet_iff, isSet_not] at h)) | ((with_reducible refine awp_skip ?_); simp only [thn_n, blk_n, fin_n, finm_n]) | ((with_reducible refine awp_ret ?_); simp only [thn_r, blk_r, fin_r, finm_r]) | (with_reducible refine awp_block ?_) | ((with_reducible refine awp_exit ?_); simp only [thn_e, blk_e, blk_x, blk_n, thn_n, ne_eq, not_false_eq_true, Nat.reduceEqDiff, reduceCtorEq]; first | (refine hK _ ?_; clear hK K) | (clear hK K; refine hK _ ?_; clear hK K) | (clear hK K; clear hK K; refine hK _ ?_; clear hK K) | (clear hK K; clear hK K; clear hK K; refine hK _ ?_; clear hK K) | skip) | (with_reducible apply And.intro) | (with_reducible exact True.intro) | ((with_reducible show List.all _ _ = true); rfl) | ((with_reducible show lendOk _ _ = true); rfl) | omega | ((first | (with_reducible show ¬ _) | (with_reducible show _ → _)); intro h; first | contradiction | cases h; done | skip)
    all_goals (try (first | refine fin_keep ?_ | refine finm_keep ?_; repeat clear hK))
    refine awp_forR 1 hX (fun st (x : Nat × List (Int × Int × Int) × (Nat × Int)) => st.at [0, 2, 3] [(4, .own 2), (5, .i x.1)] [.box T [.sl .u8 b, .i (x.2.2.1 : Int), .i x.2.2.2], .box 26 [.i 0, .nl], .rc 120 3 (x.2.1.map edgC)])
      (fun x => (edG m x.2.1 ∧ x.2.1.length + x.1 ≤ 7) ∧ edD b m x.1 x.2.1 x.2.2 = l14E b s0) (fun x => x.1) (k0, [], belowS b 8 (belowS b 4 (l14H b s0))) ⟨⟨fun e he => by simp at he, by simp only [List.length_nil]; omega⟩, ?_⟩ ?_ ?_
    · show edD b m k0 [] _ = edD b (l14M b s0) (l14K b s0).toNat [] _
      rw [hk0, Int.toNat_natCast, hmm]
    · exact ⟨[0, 1, 2], rfl, rfl, by simp [-List.getD_eq_getElem?_getD, -List.length_take, List.getD_cons_zero, List.getD_cons_succ, leFr, ASt.at, keepFr, updAll, upd_zero, upd_succ, AV.rnb, AV.rnb0, hk0, List.map_nil], by simp [-List.getD_eq_getElem?_getD, List.getD_cons_zero, List.getD_cons_succ, ASt.at, AO.rnb, AV.rnb0, upd_k0, upd_k1, upd_k2, upd_k3, hk0, List.map_nil], rfl, rfl⟩
    rintro ⟨k, L, s⟩ ⟨⟨hg, hlen2⟩, hd⟩
    simp only [ASt.at, keepFr, updAll, upd_zero, upd_succ, List.mem_cons, List.not_mem_nil, Nat.reduceEqDiff, Nat.reduceAdd, or_false, or_true, false_or, true_or, ↓reduceIte, eq_self]
    cases k with
    | zero =>
      have hl2 : L.length + 0 ≤ 7 := hlen2
      have hd' : l14E b s0 = (L, s) := hd.symm
      have hed : isEd (L.map edgC) := ⟨L, rfl⟩
      have hed' := eq_true hed
      have hll : (L.map edgC).length = L.length := List.length_map ..
      have hok : cutOk m (L.map edgC) = true := edG_ok (by omega) hg (by omega)
      repeat' first | ((with_reducible show aol _ _ _ _ _); first | (refine aol_guard_f (by rfl) ?_ ?_; (focus (simp only [go_sem]; done))) | (refine aol_guard_un (by rfl) ?_ ?_; (focus (simp only [go_sem]; done))) | ((first | (refine aol_guard_t (by rfl) ?_ ?_; (focus (simp only [go_sem]; done))) | (refine aol_guard_b (by rfl) (by rfl) (fun h => ?_) (fun h => ?_) <;> (try simp only [hsA, hsB, hsC, hsD, List.all_cons, List.all_nil, ne_eq, reduceCtorEq, inR_iff, inR_not, isSet_iff, isSet_not] at h))) <;> simp (config := { maxSteps := 2000000 }) (disch := omega) only [go_sem, ↓reduceIte, Nat.reduceEqDiff, Nat.reduceAdd, Nat.reduceLT, Nat.reduceLeDiff, Nat.reduceSub, tCutF, hed', hll, hok, or0_t, orE_t]) | simp (config := { maxSteps := 2000000 }) (disch := omega) only [go_sem, ↓reduceIte, Nat.reduceEqDiff, Nat.reduceAdd, Nat.reduceLT, Nat.reduceLeDiff, Nat.reduceSub, tCutF, hed', hll, hok, or0_t, orE_t]) | ((with_reducible refine hK _ ?_); clear hK K; try simp only [thn_n, blk_n, fin_n, finm_n]) | (with_reducible refine awp_seq fun K hK => ?_) | ((with_reducible show Awp _ _ (Code.region _ _ _) _ _); (first | refine awp_regK (by repeat constructor) (fun K hK => ?_) | (refine awp_drwK (by kernel_rfl) (by repeat constructor) (fun K hK => ?_))); simp (config := { maxSteps := 2000000 }) (disch := omega) only [go_sem, ↓reduceIte, Nat.reduceEqDiff, Nat.reduceAdd, Nat.reduceLT, Nat.reduceLeDiff, Nat.reduceSub, tCutF, hed', hll, hok, or0_t, orE_t]) | ((with_reducible show Awp _ _ (Code.cond _ _ _) _ _); refine awp_cond rfl (fun h => ?_) (fun h => ?_) <;> (try simp only [hsA, hsB, hsC, hsD, List.all_cons, List.all_nil, ne_eq, reduceCtorEq, inR_iff, inR_not, isSet_iff, isSet_not] at h)) | ((with_reducible refine awp_skip ?_); simp only [thn_n, blk_n, fin_n, finm_n]) | ((with_reducible refine awp_ret ?_); simp only [thn_r, blk_r, fin_r, finm_r]) | (with_reducible refine awp_block ?_) | ((with_reducible refine awp_exit ?_); simp only [thn_e, blk_e, blk_x, blk_n, thn_n, ne_eq, not_false_eq_true, Nat.reduceEqDiff, reduceCtorEq]; first | (refine hK _ ?_; clear hK K) | (clear hK K; refine hK _ ?_; clear hK K) | (clear hK K; clear hK K; refine hK _ ?_; clear hK K) | (clear hK K; clear hK K; clear hK K; refine hK _ ?_; clear hK K) | skip) | (with_reducible apply And.intro) | (with_reducible exact True.intro) | ((with_reducible show List.all _ _ = true); rfl) | ((with_reducible show lendOk _ _ = true); rfl) | omega | ((first | (with_reducible show ¬ _) | (with_reducible show _ → _)); intro h; first | contradiction | cases h; done | skip)
      all_goals (try (first | refine fin_keep ?_ | refine finm_keep ?_; repeat clear hK))
      rw [hd']
      exact finm_pairS (d := tPair) (j := 3) (b := 1) [0, 3] rfl rfl rfl rfl rfl rfl rfl rfl rfl
    | succ k =>
      have hl2 : L.length + (k + 1) ≤ 7 := hlen2
      have hll : (L.map edgC).length = L.length := List.length_map ..
      have hd' : edD b m k (L ++ [(belowX b m s, belowX b m (belowS b m s), belowX b 4 (belowS b m (belowS b m s)))]) (belowS b 4 (belowS b m (belowS b m s))) = l14E b s0 := hd
      repeat' first | ((with_reducible show aol _ _ _ _ _); first | (refine aol_guard_f (by rfl) ?_ ?_; (focus (simp only [go_sem]; done))) | (refine aol_guard_un (by rfl) ?_ ?_; (focus (simp only [go_sem]; done))) | ((first | (refine aol_guard_t (by rfl) ?_ ?_; (focus (simp only [go_sem]; done))) | (refine aol_guard_b (by rfl) (by rfl) (fun h => ?_) (fun h => ?_) <;> (try simp only [hsA, hsB, hsC, hsD, List.all_cons, List.all_nil, ne_eq, reduceCtorEq, inR_iff, inR_not, isSet_iff, isSet_not] at h))) <;> simp (config := { maxSteps := 2000000 }) (disch := omega) only [go_sem, ↓reduceIte, Nat.reduceEqDiff, Nat.reduceAdd, Nat.reduceLT, Nat.reduceLeDiff, Nat.reduceSub, tBel, pr_eta, hll]) | simp (config := { maxSteps := 2000000 }) (disch := omega) only [go_sem, ↓reduceIte, Nat.reduceEqDiff, Nat.reduceAdd, Nat.reduceLT, Nat.reduceLeDiff, Nat.reduceSub, tBel, pr_eta, hll]) | ((with_reducible refine hK _ ?_); clear hK K; try simp only [thn_n, blk_n, fin_n, finm_n]) | (with_reducible refine awp_seq fun K hK => ?_) | ((with_reducible show Awp _ _ (Code.region _ _ _) _ _); (first | refine awp_regK (by repeat constructor) (fun K hK => ?_) | (refine awp_drwK (by kernel_rfl) (by repeat constructor) (fun K hK => ?_))); simp (config := { maxSteps := 2000000 }) (disch := omega) only [go_sem, ↓reduceIte, Nat.reduceEqDiff, Nat.reduceAdd, Nat.reduceLT, Nat.reduceLeDiff, Nat.reduceSub, tBel, pr_eta, hll]) | ((with_reducible show Awp _ _ (Code.cond _ _ _) _ _); refine awp_cond rfl (fun h => ?_) (fun h => ?_) <;> (try simp only [hsA, hsB, hsC, hsD, List.all_cons, List.all_nil, ne_eq, reduceCtorEq, inR_iff, inR_not, isSet_iff, isSet_not] at h)) | ((with_reducible refine awp_skip ?_); simp only [thn_n, blk_n, fin_n, finm_n]) | ((with_reducible refine awp_ret ?_); simp only [thn_r, blk_r, fin_r, finm_r]) | (with_reducible refine awp_block ?_) | ((with_reducible refine awp_exit ?_); simp only [thn_e, blk_e, blk_x, blk_n, thn_n, ne_eq, not_false_eq_true, Nat.reduceEqDiff, reduceCtorEq]; first | (refine hK _ ?_; clear hK K) | (clear hK K; refine hK _ ?_; clear hK K) | (clear hK K; clear hK K; refine hK _ ?_; clear hK K) | (clear hK K; clear hK K; clear hK K; refine hK _ ?_; clear hK K) | skip) | (with_reducible apply And.intro) | (with_reducible exact True.intro) | ((with_reducible show List.all _ _ = true); rfl) | ((with_reducible show lendOk _ _ = true); rfl) | omega | ((first | (with_reducible show ¬ _) | (with_reducible show _ → _)); intro h; first | contradiction | cases h; done | skip)
      all_goals (try (first | refine fin_keep ?_ | refine finm_keep ?_; repeat clear hK))
      refine ⟨(k, L ++ [(belowX b m s, belowX b m (belowS b m s), belowX b 4 (belowS b m (belowS b m s)))], belowS b 4 (belowS b m (belowS b m s))), ⟨⟨edG_snoc (by omega) hg s, by show (L ++ [_]).length + k ≤ 7; rw [List.length_append, List.length_singleton]; omega⟩, hd'⟩, Nat.lt_succ_self k, ?_⟩
      exact ⟨[0, 1, 4], rfl, rfl, by simp [-List.getD_eq_getElem?_getD, -List.length_take, List.getD_cons_zero, List.getD_cons_succ, leFr, ASt.at, keepFr, updAll, upd_zero, upd_succ, AV.rnb, AV.rnb0, List.map_append, List.map_cons, List.map_nil, edgC], by simp [-List.getD_eq_getElem?_getD, List.getD_cons_zero, List.getD_cons_succ, ASt.at, AO.rnb, AV.rnb0, upd_k0, upd_k1, upd_k2, upd_k3, List.map_append, List.map_cons, List.map_nil, edgC], rfl, rfl⟩

theorem fin_pairi {C : Cfg} {t u : Tmp} {j b : Nat} {T T' : TypeId} {k : IntKind} {E : TypeId} {l : List Int} {n x : Int} {d : TD} {s : ASt} (hT : C.Γ T = some d) (ha : d.agg = true) (hs : d.size = 2) (h : nth s.fr t = .bp b 0)
    (hb : s.hp[b]? = some (.box T' [.i n, .own j])) (hh : s.hp[j]? = some (.row k E l)) (hu : nth s.fr u = .i x) : FinS C [.cell t T, .tmp u] (.tu [.ag [.i n, .own 0], .i x]) [.row k E l] s := by
  exact ⟨s, Wk.refl s, (0 + 2 ≤ 2) ∧ True ∧ True, .tu [.ag [.i n, .own j], .i x], by simp [resV, resVs, resV1, aLoad, hT, ha, hs, h, hb, hu], ⟨by omega, trivial, trivial⟩, [j], by simp, rfl, by simp [hh, AO.ren]⟩
theorem fin_pairii {C : Cfg} {t u v : Tmp} {j b : Nat} {T T' : TypeId} {k : IntKind} {E : TypeId} {l : List Int} {n x y : Int} {d : TD} {s : ASt} (hT : C.Γ T = some d) (ha : d.agg = true) (hs : d.size = 2) (h : nth s.fr t = .bp b 0)
    (hb : s.hp[b]? = some (.box T' [.i n, .own j])) (hh : s.hp[j]? = some (.row k E l)) (hu : nth s.fr u = .i x) (hv : nth s.fr v = .i y) : FinS C [.cell t T, .tmp u, .tmp v] (.tu [.ag [.i n, .own 0], .i x, .i y]) [.row k E l] s := by
  exact ⟨s, Wk.refl s, (0 + 2 ≤ 2) ∧ True ∧ True ∧ True, .tu [.ag [.i n, .own j], .i x, .i y], by simp [resV, resVs, resV1, aLoad, hT, ha, hs, h, hb, hu, hv], ⟨by omega, trivial, trivial, trivial⟩, [j], by simp, rfl, by simp [hh, AO.ren]⟩
def drG (b : List Int) : Int := l14N b (newV b)
def drV (b : List Int) : List Int := l14L b (newV b)
def drS (b : List Int) : Nat × Int := l14S b (newV b)
def tDr14 : Tab
  | [.sl .u8 b] => some (b.length ≤ 1048576, .ag [.i (drG b), .own 0], [.row .i64 3 (drV b)])
  | _ => none
theorem drPp_ok : Fits Try.prog 45 tDr14 := by
  refine ⟨callable_of Try.func45 (by kernel_rfl) rfl, ?_⟩
  intro args p out Ho h hp
  unfold tDr14 at h
  split at h <;> cases h
  rename_i b
  refine ⟨acall_by (env_ok2 (env := []) (envM := [(131, tNew), (154, tL14)]) (by simp) (by simp only [List.forall_mem_cons, List.not_mem_nil, false_implies, implies_true, and_true]; exact ⟨new_ok, l14_ok⟩)) Try.func45 rfl rfl rfl rfl rfl ?_, rfl, rfl⟩
  intro hlen c hc hX
  simp only [lensOk, AV.lenOk, true_and, and_true] at hlen
  simp only [Try.ntmps45, Try.results45, List.length_cons, List.length_nil, List.replicate, List.cons_append, List.nil_append, Nat.reduceAdd, Nat.reduceSub]
  have hll := l14L_len b (newV b)
  repeat' first | ((with_reducible show aol _ _ _ _ _); first | (refine aol_guard_f (by rfl) ?_ ?_; (focus (simp only [go_sem]; done))) | (refine aol_guard_un (by rfl) ?_ ?_; (focus (simp only [go_sem]; done))) | ((first | (refine aol_guard_t (by rfl) ?_ ?_; (focus (simp only [go_sem]; done))) | (refine aol_guard_b (by rfl) (by rfl) (fun h => ?_) (fun h => ?_) <;> (try simp only [hsA, hsB, hsC, hsD, List.all_cons, List.all_nil, ne_eq, reduceCtorEq, inR_iff, inR_not, isSet_iff, isSet_not] at h))) <;> simp (config := { maxSteps := 2000000 }) (disch := omega) only [go_sem, ↓reduceIte, Nat.reduceEqDiff, Nat.reduceAdd, Nat.reduceLT, Nat.reduceLeDiff, Nat.reduceSub, tNew, tL14, pr_eta]) | simp (config := { maxSteps := 2000000 }) (disch := omega) only [go_sem, ↓reduceIte, Nat.reduceEqDiff, Nat.reduceAdd, Nat.reduceLT, Nat.reduceLeDiff, Nat.reduceSub, tNew, tL14, pr_eta]) | ((with_reducible refine hK _ ?_); clear hK K; try simp only [thn_n, blk_n, fin_n, finm_n]) | (with_reducible refine awp_seq fun K hK => ?_) | ((with_reducible show Awp _ _ (Code.region _ _ _) _ _); (first | refine awp_regK (by repeat constructor) (fun K hK => ?_) | (refine awp_drwK (by kernel_rfl) (by repeat constructor) (fun K hK => ?_))); simp (config := { maxSteps := 2000000 }) (disch := omega) only [go_sem, ↓reduceIte, Nat.reduceEqDiff, Nat.reduceAdd, Nat.reduceLT, Nat.reduceLeDiff, Nat.reduceSub, tNew, tL14, pr_eta]) | ((with_reducible show Awp _ _ (Code.cond _ _ _) _ _); refine awp_cond rfl (fun h => ?_) (fun h => ?_) <;> (try simp only [hsA, hsB, hsC, hsD, List.all_cons, List.all_nil, ne_eq, reduceCtorEq, inR_iff, inR_not, isSet_iff, isSet_not] at h)) | ((with_reducible refine awp_skip ?_); simp only [thn_n, blk_n, fin_n, finm_n]) | ((with_reducible refine awp_ret ?_); simp only [thn_r, blk_r, fin_r, finm_r]) | (with_reducible refine awp_block ?_) | ((with_reducible refine awp_exit ?_); simp only [thn_e, blk_e, blk_x, blk_n, thn_n, ne_eq, not_false_eq_true, Nat.reduceEqDiff, reduceCtorEq]; first | (refine hK _ ?_; clear hK K) | (clear hK K; refine hK _ ?_; clear hK K) | (clear hK K; clear hK K; refine hK _ ?_; clear hK K) | (clear hK K; clear hK K; clear hK K; refine hK _ ?_; clear hK K) | skip) | (with_reducible apply And.intro) | (with_reducible exact True.intro) | ((with_reducible show List.all _ _ = true); rfl) | ((with_reducible show lendOk _ _ = true); rfl) | omega | ((first | (with_reducible show ¬ _) | (with_reducible show _ → _)); intro h; first | contradiction | cases h; done | skip)
  all_goals (try (first | refine fin_keep ?_ | refine finm_keep ?_; repeat clear hK))
  exact fin_pair (d := tPair) (j := 2) rfl rfl rfl rfl rfl rfl
theorem drSym_ok : Fits Try.prog 60 tDr14 := by
  refine ⟨callable_of Try.func60 (by kernel_rfl) rfl, ?_⟩
  intro args p out Ho h hp
  unfold tDr14 at h
  split at h <;> cases h
  rename_i b
  refine ⟨acall_by (env_ok2 (env := []) (envM := [(131, tNew), (154, tL14)]) (by simp) (by simp only [List.forall_mem_cons, List.not_mem_nil, false_implies, implies_true, and_true]; exact ⟨new_ok, l14_ok⟩)) Try.func60 rfl rfl rfl rfl rfl ?_, rfl, rfl⟩
  intro hlen c hc hX
  simp only [lensOk, AV.lenOk, true_and, and_true] at hlen
  simp only [Try.ntmps60, Try.results60, List.length_cons, List.length_nil, List.replicate, List.cons_append, List.nil_append, Nat.reduceAdd, Nat.reduceSub]
  have hll := l14L_len b (newV b)
  repeat' first | ((with_reducible show aol _ _ _ _ _); first | (refine aol_guard_f (by rfl) ?_ ?_; (focus (simp only [go_sem]; done))) | (refine aol_guard_un (by rfl) ?_ ?_; (focus (simp only [go_sem]; done))) | ((first | (refine aol_guard_t (by rfl) ?_ ?_; (focus (simp only [go_sem]; done))) | (refine aol_guard_b (by rfl) (by rfl) (fun h => ?_) (fun h => ?_) <;> (try simp only [hsA, hsB, hsC, hsD, List.all_cons, List.all_nil, ne_eq, reduceCtorEq, inR_iff, inR_not, isSet_iff, isSet_not] at h))) <;> simp (config := { maxSteps := 2000000 }) (disch := omega) only [go_sem, ↓reduceIte, Nat.reduceEqDiff, Nat.reduceAdd, Nat.reduceLT, Nat.reduceLeDiff, Nat.reduceSub, tNew, tL14, pr_eta]) | simp (config := { maxSteps := 2000000 }) (disch := omega) only [go_sem, ↓reduceIte, Nat.reduceEqDiff, Nat.reduceAdd, Nat.reduceLT, Nat.reduceLeDiff, Nat.reduceSub, tNew, tL14, pr_eta]) | ((with_reducible refine hK _ ?_); clear hK K; try simp only [thn_n, blk_n, fin_n, finm_n]) | (with_reducible refine awp_seq fun K hK => ?_) | ((with_reducible show Awp _ _ (Code.region _ _ _) _ _); (first | refine awp_regK (by repeat constructor) (fun K hK => ?_) | (refine awp_drwK (by kernel_rfl) (by repeat constructor) (fun K hK => ?_))); simp (config := { maxSteps := 2000000 }) (disch := omega) only [go_sem, ↓reduceIte, Nat.reduceEqDiff, Nat.reduceAdd, Nat.reduceLT, Nat.reduceLeDiff, Nat.reduceSub, tNew, tL14, pr_eta]) | ((with_reducible show Awp _ _ (Code.cond _ _ _) _ _); refine awp_cond rfl (fun h => ?_) (fun h => ?_) <;> (try simp only [hsA, hsB, hsC, hsD, List.all_cons, List.all_nil, ne_eq, reduceCtorEq, inR_iff, inR_not, isSet_iff, isSet_not] at h)) | ((with_reducible refine awp_skip ?_); simp only [thn_n, blk_n, fin_n, finm_n]) | ((with_reducible refine awp_ret ?_); simp only [thn_r, blk_r, fin_r, finm_r]) | (with_reducible refine awp_block ?_) | ((with_reducible refine awp_exit ?_); simp only [thn_e, blk_e, blk_x, blk_n, thn_n, ne_eq, not_false_eq_true, Nat.reduceEqDiff, reduceCtorEq]; first | (refine hK _ ?_; clear hK K) | (clear hK K; refine hK _ ?_; clear hK K) | (clear hK K; clear hK K; refine hK _ ?_; clear hK K) | (clear hK K; clear hK K; clear hK K; refine hK _ ?_; clear hK K) | skip) | (with_reducible apply And.intro) | (with_reducible exact True.intro) | ((with_reducible show List.all _ _ = true); rfl) | ((with_reducible show lendOk _ _ = true); rfl) | omega | ((first | (with_reducible show ¬ _) | (with_reducible show _ → _)); intro h; first | contradiction | cases h; done | skip)
  all_goals (try (first | refine fin_keep ?_ | refine finm_keep ?_; repeat clear hK))
  exact fin_pair (d := tPair) (j := 2) rfl rfl rfl rfl rfl rfl
def drX (b : List Int) : Int := belowX b 6 (drS b) - 1
def drY (b : List Int) : Int := belowX b 5 (belowS b 6 (drS b))
def tDrLo : Tab
  | [.sl .u8 b] => some (b.length ≤ 1048576, .tu [.ag [.i (drG b), .own 0], .i (drX b)], [.row .i64 3 (drV b)])
  | _ => none
theorem drLo_ok : Fits Try.prog 53 tDrLo := by
  refine ⟨callable_of Try.func53 (by kernel_rfl) rfl, ?_⟩
  intro args p out Ho h hp
  unfold tDrLo at h
  split at h <;> cases h
  rename_i b
  refine ⟨acall_by (env_ok2 (env := []) (envM := [(131, tNew), (154, tL14), (159, tBel)]) (by simp) (by simp only [List.forall_mem_cons, List.not_mem_nil, false_implies, implies_true, and_true]; exact ⟨new_ok, l14_ok, bel_ok⟩)) Try.func53 rfl rfl rfl rfl rfl ?_, rfl, rfl⟩
  intro hlen c hc hX
  simp only [lensOk, AV.lenOk, true_and, and_true] at hlen
  simp only [Try.ntmps53, Try.results53, List.length_cons, List.length_nil, List.replicate, List.cons_append, List.nil_append, Nat.reduceAdd, Nat.reduceSub]
  have hll := l14L_len b (newV b)
  have h6 := belowX_bd b (n := 6) (by omega) (drS b)
  have fS : l14S b (newV b) = drS b := rfl
  have fX : belowX b 6 (drS b) - 1 = drX b := rfl
  repeat' first | ((with_reducible show aol _ _ _ _ _); first | (refine aol_guard_f (by rfl) ?_ ?_; (focus (simp only [go_sem]; done))) | (refine aol_guard_un (by rfl) ?_ ?_; (focus (simp only [go_sem]; done))) | ((first | (refine aol_guard_t (by rfl) ?_ ?_; (focus (simp only [go_sem]; done))) | (refine aol_guard_b (by rfl) (by rfl) (fun h => ?_) (fun h => ?_) <;> (try simp only [hsA, hsB, hsC, hsD, List.all_cons, List.all_nil, ne_eq, reduceCtorEq, inR_iff, inR_not, isSet_iff, isSet_not] at h))) <;> simp (config := { maxSteps := 2000000 }) (disch := omega) only [go_sem, ↓reduceIte, Nat.reduceEqDiff, Nat.reduceAdd, Nat.reduceLT, Nat.reduceLeDiff, Nat.reduceSub, tNew, tL14, tBel, pr_eta, fS, fX]) | simp (config := { maxSteps := 2000000 }) (disch := omega) only [go_sem, ↓reduceIte, Nat.reduceEqDiff, Nat.reduceAdd, Nat.reduceLT, Nat.reduceLeDiff, Nat.reduceSub, tNew, tL14, tBel, pr_eta, fS, fX]) | ((with_reducible refine hK _ ?_); clear hK K; try simp only [thn_n, blk_n, fin_n, finm_n]) | (with_reducible refine awp_seq fun K hK => ?_) | ((with_reducible show Awp _ _ (Code.region 3 _ true) _ _); (refine awp_ordersK [[1, 0, 2, 3, 4, 5], [1, 2, 3, 0, 4, 5]] (by kernel_rfl) (by kernel_rfl) (by repeat constructor) (fun K hK => ?_); simp only [Alls, and_true]; (repeat' apply And.intro) <;> (refine ⟨_, by repeat constructor, ?_⟩; simp (config := { maxSteps := 2000000 }) (disch := omega) only [go_sem, ↓reduceIte, Nat.reduceEqDiff, Nat.reduceAdd, Nat.reduceLT, Nat.reduceLeDiff, Nat.reduceSub, tNew, tL14, tBel, pr_eta, fS, fX]))) | ((with_reducible show Awp _ _ (Code.region _ _ _) _ _); (first | refine awp_regK (by repeat constructor) (fun K hK => ?_) | (refine awp_drwK (by kernel_rfl) (by repeat constructor) (fun K hK => ?_))); simp (config := { maxSteps := 2000000 }) (disch := omega) only [go_sem, ↓reduceIte, Nat.reduceEqDiff, Nat.reduceAdd, Nat.reduceLT, Nat.reduceLeDiff, Nat.reduceSub, tNew, tL14, tBel, pr_eta, fS, fX]) | ((with_reducible show Awp _ _ (Code.cond _ _ _) _ _); refine awp_cond rfl (fun h => ?_) (fun h => ?_) <;> (try simp only [hsA, hsB, hsC, hsD, List.all_cons, List.all_nil, ne_eq, reduceCtorEq, inR_iff, inR_not, isSet_iff, isSet_not] at h)) | ((with_reducible refine awp_skip ?_); simp only [thn_n, blk_n, fin_n, finm_n]) | ((with_reducible refine awp_ret ?_); simp only [thn_r, blk_r, fin_r, finm_r]) | (with_reducible refine awp_block ?_) | ((with_reducible refine awp_exit ?_); simp only [thn_e, blk_e, blk_x, blk_n, thn_n, ne_eq, not_false_eq_true, Nat.reduceEqDiff, reduceCtorEq]; first | (refine hK _ ?_; clear hK K) | (clear hK K; refine hK _ ?_; clear hK K) | (clear hK K; clear hK K; refine hK _ ?_; clear hK K) | (clear hK K; clear hK K; clear hK K; refine hK _ ?_; clear hK K) | skip) | (with_reducible apply And.intro) | (with_reducible exact True.intro) | ((with_reducible show List.all _ _ = true); rfl) | ((with_reducible show lendOk _ _ = true); rfl) | omega | ((first | (with_reducible show ¬ _) | (with_reducible show _ → _)); intro h; first | contradiction | cases h; done | skip)
  all_goals (try (first | refine fin_keep ?_ | refine finm_keep ?_; repeat clear hK))
  all_goals try exact fin_pairi (d := tPair) (j := 2) rfl rfl rfl rfl rfl rfl rfl
def tDrMg : Tab
  | [.sl .u8 b] => some (b.length ≤ 1048576, .tu [.ag [.i (drG b), .own 0], .i (drX b), .i (drY b)], [.row .i64 3 (drV b)])
  | _ => none
theorem drMg_ok : Fits Try.prog 56 tDrMg := by
  refine ⟨callable_of Try.func56 (by kernel_rfl) rfl, ?_⟩
  intro args p out Ho h hp
  unfold tDrMg at h
  split at h <;> cases h
  rename_i b
  refine ⟨acall_by (env_ok2 (env := []) (envM := [(131, tNew), (154, tL14), (159, tBel)]) (by simp) (by simp only [List.forall_mem_cons, List.not_mem_nil, false_implies, implies_true, and_true]; exact ⟨new_ok, l14_ok, bel_ok⟩)) Try.func56 rfl rfl rfl rfl rfl ?_, rfl, rfl⟩
  intro hlen c hc hX
  simp only [lensOk, AV.lenOk, true_and, and_true] at hlen
  simp only [Try.ntmps56, Try.results56, List.length_cons, List.length_nil, List.replicate, List.cons_append, List.nil_append, Nat.reduceAdd, Nat.reduceSub]
  have hll := l14L_len b (newV b)
  have h6 := belowX_bd b (n := 6) (by omega) (drS b)
  have fS : l14S b (newV b) = drS b := rfl
  have fX : belowX b 6 (drS b) - 1 = drX b := rfl
  have fY : belowX b 5 (belowS b 6 (drS b)) = drY b := rfl
  repeat' first | ((with_reducible show aol _ _ _ _ _); first | (refine aol_guard_f (by rfl) ?_ ?_; (focus (simp only [go_sem]; done))) | (refine aol_guard_un (by rfl) ?_ ?_; (focus (simp only [go_sem]; done))) | ((first | (refine aol_guard_t (by rfl) ?_ ?_; (focus (simp only [go_sem]; done))) | (refine aol_guard_b (by rfl) (by rfl) (fun h => ?_) (fun h => ?_) <;> (try simp only [hsA, hsB, hsC, hsD, List.all_cons, List.all_nil, ne_eq, reduceCtorEq, inR_iff, inR_not, isSet_iff, isSet_not] at h))) <;> simp (config := { maxSteps := 2000000 }) (disch := omega) only [go_sem, ↓reduceIte, Nat.reduceEqDiff, Nat.reduceAdd, Nat.reduceLT, Nat.reduceLeDiff, Nat.reduceSub, tNew, tL14, tBel, pr_eta, fS, fX, fY]) | simp (config := { maxSteps := 2000000 }) (disch := omega) only [go_sem, ↓reduceIte, Nat.reduceEqDiff, Nat.reduceAdd, Nat.reduceLT, Nat.reduceLeDiff, Nat.reduceSub, tNew, tL14, tBel, pr_eta, fS, fX, fY]) | ((with_reducible refine hK _ ?_); clear hK K; try simp only [thn_n, blk_n, fin_n, finm_n]) | (with_reducible refine awp_seq fun K hK => ?_) | ((with_reducible show Awp _ _ (Code.region 4 _ true) _ _); (refine awp_ordersK [[1, 2, 0, 3, 4, 5, 6], [1, 2, 3, 0, 4, 5, 6]] (by kernel_rfl) (by kernel_rfl) (by repeat constructor) (fun K hK => ?_); simp only [Alls, and_true]; (repeat' apply And.intro) <;> (refine ⟨_, by repeat constructor, ?_⟩; simp (config := { maxSteps := 2000000 }) (disch := omega) only [go_sem, ↓reduceIte, Nat.reduceEqDiff, Nat.reduceAdd, Nat.reduceLT, Nat.reduceLeDiff, Nat.reduceSub, tNew, tL14, tBel, pr_eta, fS, fX, fY]))) | ((with_reducible show Awp _ _ (Code.region _ _ _) _ _); (first | refine awp_regK (by repeat constructor) (fun K hK => ?_) | (refine awp_drwK (by kernel_rfl) (by repeat constructor) (fun K hK => ?_))); simp (config := { maxSteps := 2000000 }) (disch := omega) only [go_sem, ↓reduceIte, Nat.reduceEqDiff, Nat.reduceAdd, Nat.reduceLT, Nat.reduceLeDiff, Nat.reduceSub, tNew, tL14, tBel, pr_eta, fS, fX, fY]) | ((with_reducible show Awp _ _ (Code.cond _ _ _) _ _); refine awp_cond rfl (fun h => ?_) (fun h => ?_) <;> (try simp only [hsA, hsB, hsC, hsD, List.all_cons, List.all_nil, ne_eq, reduceCtorEq, inR_iff, inR_not, isSet_iff, isSet_not] at h)) | ((with_reducible refine awp_skip ?_); simp only [thn_n, blk_n, fin_n, finm_n]) | ((with_reducible refine awp_ret ?_); simp only [thn_r, blk_r, fin_r, finm_r]) | (with_reducible refine awp_block ?_) | ((with_reducible refine awp_exit ?_); simp only [thn_e, blk_e, blk_x, blk_n, thn_n, ne_eq, not_false_eq_true, Nat.reduceEqDiff, reduceCtorEq]; first | (refine hK _ ?_; clear hK K) | (clear hK K; refine hK _ ?_; clear hK K) | (clear hK K; clear hK K; refine hK _ ?_; clear hK K) | (clear hK K; clear hK K; clear hK K; refine hK _ ?_; clear hK K) | skip) | (with_reducible apply And.intro) | (with_reducible exact True.intro) | ((with_reducible show List.all _ _ = true); rfl) | ((with_reducible show lendOk _ _ = true); rfl) | omega | ((first | (with_reducible show ¬ _) | (with_reducible show _ → _)); intro h; first | contradiction | cases h; done | skip)
  all_goals (try (first | refine fin_keep ?_ | refine finm_keep ?_; repeat clear hK))
  all_goals try exact fin_pairii (d := tPair) (j := 2) rfl rfl rfl rfl rfl rfl rfl rfl
def drO (b : List Int) : Bool := cutV (drG b) (drV b) && onceX b 2 (drS b)
def drZ (b : List Int) : Nat × Int := if cutV (drG b) (drV b) = true then belowS b 2 (drS b) else drS b
def drT (b : List Int) : Int := if drO b = true then ppT (drG b) (drV b) else belowX b 6 (drZ b) - 1
def drU (b : List Int) : Int := if drO b = true then ppU (drG b) (drV b) else belowX b 5 (belowS b 6 (drZ b))
def tDrPend : Tab
  | [.sl .u8 b] => some (b.length ≤ 1048576, .tu [.ag [.i (drG b), .own 0], .i (drT b), .i (drU b)], [.row .i64 3 (drV b)])
  | _ => none
theorem drPend_ok : Fits Try.prog 59 tDrPend := by
  refine ⟨callable_of Try.func59 (by kernel_rfl) rfl, ?_⟩
  intro args p out Ho h hp
  unfold tDrPend at h
  split at h <;> cases h
  rename_i b
  refine ⟨acall_by (env_ok2 (env := [(47, tPp)]) (envM := [(131, tNew), (154, tL14), (159, tBel), (165, tOnc)]) (by simp only [List.forall_mem_cons, List.not_mem_nil, false_implies, implies_true, and_true]; exact specPp_ok) (by simp only [List.forall_mem_cons, List.not_mem_nil, false_implies, implies_true, and_true]; exact ⟨new_ok, l14_ok, bel_ok, onc_ok⟩)) Try.func59 rfl rfl rfl rfl rfl ?_, rfl, rfl⟩
  intro hlen c hc hX
  simp only [lensOk, AV.lenOk, true_and, and_true] at hlen
  simp only [Try.ntmps59, Try.results59, List.length_cons, List.length_nil, List.replicate, List.cons_append, List.nil_append, Nat.reduceAdd, Nat.reduceSub]
  have hll := l14L_len b (newV b)
  have fN : l14N b (newV b) = drG b := rfl
  have fL : l14L b (newV b) = drV b := rfl
  have fS : l14S b (newV b) = drS b := rfl
  rw [fL] at hll
  cases hg : cutV (drG b) (drV b) with
  | false =>
    have h6 := belowX_bd b (n := 6) (by omega) (drS b)
    have eO : ¬ drO b = true := by unfold drO; rw [hg]; simp
    have eZ : drZ b = drS b := if_neg (by rw [hg]; simp)
    have eT : drT b = belowX b 6 (drS b) - 1 := by unfold drT; rw [if_neg eO, eZ]
    have eU : drU b = belowX b 5 (belowS b 6 (drS b)) := by unfold drU; rw [if_neg eO, eZ]
    rw [eT, eU]
    repeat' first | ((with_reducible show aol _ _ _ _ _); first | (refine aol_guard_f (by rfl) ?_ ?_; (focus (simp only [go_sem]; done))) | (refine aol_guard_un (by rfl) ?_ ?_; (focus (simp only [go_sem]; done))) | ((first | (refine aol_guard_t (by rfl) ?_ ?_; (focus (simp only [go_sem]; done))) | (refine aol_guard_b (by rfl) (by rfl) (fun h => ?_) (fun h => ?_) <;> (try simp only [hsA, hsB, hsC, hsD, List.all_cons, List.all_nil, ne_eq, reduceCtorEq, inR_iff, inR_not, isSet_iff, isSet_not] at h))) <;> simp (config := { maxSteps := 2000000 }) (disch := omega) only [go_sem, ↓reduceIte, Nat.reduceEqDiff, Nat.reduceAdd, Nat.reduceLT, Nat.reduceLeDiff, Nat.reduceSub, tNew, tL14, tBel, tPp, pr_eta, fN, fL, fS, hg]) | simp (config := { maxSteps := 2000000 }) (disch := omega) only [go_sem, ↓reduceIte, Nat.reduceEqDiff, Nat.reduceAdd, Nat.reduceLT, Nat.reduceLeDiff, Nat.reduceSub, tNew, tL14, tBel, tPp, pr_eta, fN, fL, fS, hg]) | ((with_reducible refine hK _ ?_); clear hK K; try simp only [thn_n, blk_n, fin_n, finm_n]) | (with_reducible refine awp_seq fun K hK => ?_) | ((with_reducible show Awp _ _ (Code.region 6 _ true) _ _); (refine awp_ordersK [[1, 4, 0, 2, 3, 5, 6, 7, 8], [1, 4, 2, 3, 0, 5, 6, 7, 8], [1, 4, 2, 3, 5, 0, 6, 7, 8]] (by kernel_rfl) (by kernel_rfl) (by repeat constructor) (fun K hK => ?_); simp only [Alls, and_true]; (repeat' apply And.intro) <;> (refine ⟨_, by repeat constructor, ?_⟩; simp (config := { maxSteps := 2000000 }) (disch := omega) only [go_sem, ↓reduceIte, Nat.reduceEqDiff, Nat.reduceAdd, Nat.reduceLT, Nat.reduceLeDiff, Nat.reduceSub, tNew, tL14, tBel, tPp, pr_eta, fN, fL, fS, hg]))) | ((with_reducible show Awp _ _ (Code.region _ _ _) _ _); (first | refine awp_regK (by repeat constructor) (fun K hK => ?_) | (refine awp_drwK (by kernel_rfl) (by repeat constructor) (fun K hK => ?_))); simp (config := { maxSteps := 2000000 }) (disch := omega) only [go_sem, ↓reduceIte, Nat.reduceEqDiff, Nat.reduceAdd, Nat.reduceLT, Nat.reduceLeDiff, Nat.reduceSub, tNew, tL14, tBel, tPp, pr_eta, fN, fL, fS, hg]) | ((with_reducible show Awp _ _ (Code.cond _ _ _) _ _); refine awp_cond rfl (fun h => ?_) (fun h => ?_) <;> (try simp only [hsA, hsB, hsC, hsD, List.all_cons, List.all_nil, ne_eq, reduceCtorEq, inR_iff, inR_not, isSet_iff, isSet_not] at h)) | ((with_reducible refine awp_skip ?_); simp only [thn_n, blk_n, fin_n, finm_n]) | ((with_reducible refine awp_ret ?_); simp only [thn_r, blk_r, fin_r, finm_r]) | (with_reducible refine awp_block ?_) | ((with_reducible refine awp_exit ?_); simp only [thn_e, blk_e, blk_x, blk_n, thn_n, ne_eq, not_false_eq_true, Nat.reduceEqDiff, reduceCtorEq]; first | (refine hK _ ?_; clear hK K) | (clear hK K; refine hK _ ?_; clear hK K) | (clear hK K; clear hK K; refine hK _ ?_; clear hK K) | (clear hK K; clear hK K; clear hK K; refine hK _ ?_; clear hK K) | skip) | (with_reducible apply And.intro) | (with_reducible exact True.intro) | ((with_reducible show List.all _ _ = true); rfl) | ((with_reducible show lendOk _ _ = true); rfl) | omega | ((first | (with_reducible show ¬ _) | (with_reducible show _ → _)); intro h; first | contradiction | cases h; done | skip)
    all_goals (try (first | refine fin_keep ?_ | refine finm_keep ?_; repeat clear hK))
    all_goals try exact fin_pairii (d := tPair) (j := 2) rfl rfl rfl rfl rfl rfl rfl rfl
  | true =>
    cases ho : onceX b 2 (drS b) with
    | true =>
      have eO : drO b = true := by unfold drO; rw [hg, ho]; rfl
      have eT : drT b = ppT (drG b) (drV b) := if_pos eO
      have eU : drU b = ppU (drG b) (drV b) := if_pos eO
      rw [eT, eU]
      repeat' first | ((with_reducible show aol _ _ _ _ _); first | (refine aol_guard_f (by rfl) ?_ ?_; (focus (simp only [go_sem]; done))) | (refine aol_guard_un (by rfl) ?_ ?_; (focus (simp only [go_sem]; done))) | ((first | (refine aol_guard_t (by rfl) ?_ ?_; (focus (simp only [go_sem]; done))) | (refine aol_guard_b (by rfl) (by rfl) (fun h => ?_) (fun h => ?_) <;> (try simp only [hsA, hsB, hsC, hsD, List.all_cons, List.all_nil, ne_eq, reduceCtorEq, inR_iff, inR_not, isSet_iff, isSet_not] at h))) <;> simp (config := { maxSteps := 2000000 }) (disch := omega) only [go_sem, ↓reduceIte, Nat.reduceEqDiff, Nat.reduceAdd, Nat.reduceLT, Nat.reduceLeDiff, Nat.reduceSub, tNew, tL14, tBel, tPp, tOnc, pr_eta, fN, fL, fS, hg, ho, or0_t]) | simp (config := { maxSteps := 2000000 }) (disch := omega) only [go_sem, ↓reduceIte, Nat.reduceEqDiff, Nat.reduceAdd, Nat.reduceLT, Nat.reduceLeDiff, Nat.reduceSub, tNew, tL14, tBel, tPp, tOnc, pr_eta, fN, fL, fS, hg, ho, or0_t]) | ((with_reducible refine hK _ ?_); clear hK K; try simp only [thn_n, blk_n, fin_n, finm_n]) | (with_reducible refine awp_seq fun K hK => ?_) | ((with_reducible show Awp _ _ (Code.region 6 _ true) _ _); (refine awp_ordersK [[1, 4, 0, 2, 3, 5, 6, 7, 8], [1, 4, 2, 3, 0, 5, 6, 7, 8], [1, 4, 2, 3, 5, 0, 6, 7, 8]] (by kernel_rfl) (by kernel_rfl) (by repeat constructor) (fun K hK => ?_); simp only [Alls, and_true]; (repeat' apply And.intro) <;> (refine ⟨_, by repeat constructor, ?_⟩; simp (config := { maxSteps := 2000000 }) (disch := omega) only [go_sem, ↓reduceIte, Nat.reduceEqDiff, Nat.reduceAdd, Nat.reduceLT, Nat.reduceLeDiff, Nat.reduceSub, tNew, tL14, tBel, tPp, tOnc, pr_eta, fN, fL, fS, hg, ho, or0_t]))) | ((with_reducible show Awp _ _ (Code.region _ _ _) _ _); (first | refine awp_regK (by repeat constructor) (fun K hK => ?_) | (refine awp_drwK (by kernel_rfl) (by repeat constructor) (fun K hK => ?_))); simp (config := { maxSteps := 2000000 }) (disch := omega) only [go_sem, ↓reduceIte, Nat.reduceEqDiff, Nat.reduceAdd, Nat.reduceLT, Nat.reduceLeDiff, Nat.reduceSub, tNew, tL14, tBel, tPp, tOnc, pr_eta, fN, fL, fS, hg, ho, or0_t]) | ((with_reducible show Awp _ _ (Code.cond _ _ _) _ _); refine awp_cond rfl (fun h => ?_) (fun h => ?_) <;> (try simp only [hsA, hsB, hsC, hsD, List.all_cons, List.all_nil, ne_eq, reduceCtorEq, inR_iff, inR_not, isSet_iff, isSet_not] at h)) | ((with_reducible refine awp_skip ?_); simp only [thn_n, blk_n, fin_n, finm_n]) | ((with_reducible refine awp_ret ?_); simp only [thn_r, blk_r, fin_r, finm_r]) | (with_reducible refine awp_block ?_) | ((with_reducible refine awp_exit ?_); simp only [thn_e, blk_e, blk_x, blk_n, thn_n, ne_eq, not_false_eq_true, Nat.reduceEqDiff, reduceCtorEq]; first | (refine hK _ ?_; clear hK K) | (clear hK K; refine hK _ ?_; clear hK K) | (clear hK K; clear hK K; refine hK _ ?_; clear hK K) | (clear hK K; clear hK K; clear hK K; refine hK _ ?_; clear hK K) | skip) | (with_reducible apply And.intro) | (with_reducible exact True.intro) | ((with_reducible show List.all _ _ = true); rfl) | ((with_reducible show lendOk _ _ = true); rfl) | omega | ((first | (with_reducible show ¬ _) | (with_reducible show _ → _)); intro h; first | contradiction | cases h; done | skip)
      all_goals (try (first | refine fin_keep ?_ | refine finm_keep ?_; repeat clear hK))
      all_goals try exact fin_pairii (d := tPair) (j := 2) rfl rfl rfl rfl rfl rfl rfl rfl
    | false =>
      have h6 := belowX_bd b (n := 6) (by omega) (belowS b 2 (drS b))
      have eO : ¬ drO b = true := by unfold drO; rw [hg, ho]; simp
      have eZ : drZ b = belowS b 2 (drS b) := if_pos hg
      have eT : drT b = belowX b 6 (belowS b 2 (drS b)) - 1 := by unfold drT; rw [if_neg eO, eZ]
      have eU : drU b = belowX b 5 (belowS b 6 (belowS b 2 (drS b))) := by unfold drU; rw [if_neg eO, eZ]
      rw [eT, eU]
      repeat' first | ((with_reducible show aol _ _ _ _ _); first | (refine aol_guard_f (by rfl) ?_ ?_; (focus (simp only [go_sem]; done))) | (refine aol_guard_un (by rfl) ?_ ?_; (focus (simp only [go_sem]; done))) | ((first | (refine aol_guard_t (by rfl) ?_ ?_; (focus (simp only [go_sem]; done))) | (refine aol_guard_b (by rfl) (by rfl) (fun h => ?_) (fun h => ?_) <;> (try simp only [hsA, hsB, hsC, hsD, List.all_cons, List.all_nil, ne_eq, reduceCtorEq, inR_iff, inR_not, isSet_iff, isSet_not] at h))) <;> simp (config := { maxSteps := 2000000 }) (disch := omega) only [go_sem, ↓reduceIte, Nat.reduceEqDiff, Nat.reduceAdd, Nat.reduceLT, Nat.reduceLeDiff, Nat.reduceSub, tNew, tL14, tBel, tPp, tOnc, pr_eta, fN, fL, fS, hg, ho, or0_t]) | simp (config := { maxSteps := 2000000 }) (disch := omega) only [go_sem, ↓reduceIte, Nat.reduceEqDiff, Nat.reduceAdd, Nat.reduceLT, Nat.reduceLeDiff, Nat.reduceSub, tNew, tL14, tBel, tPp, tOnc, pr_eta, fN, fL, fS, hg, ho, or0_t]) | ((with_reducible refine hK _ ?_); clear hK K; try simp only [thn_n, blk_n, fin_n, finm_n]) | (with_reducible refine awp_seq fun K hK => ?_) | ((with_reducible show Awp _ _ (Code.region 6 _ true) _ _); (refine awp_ordersK [[1, 4, 0, 2, 3, 5, 6, 7, 8], [1, 4, 2, 3, 0, 5, 6, 7, 8], [1, 4, 2, 3, 5, 0, 6, 7, 8]] (by kernel_rfl) (by kernel_rfl) (by repeat constructor) (fun K hK => ?_); simp only [Alls, and_true]; (repeat' apply And.intro) <;> (refine ⟨_, by repeat constructor, ?_⟩; simp (config := { maxSteps := 2000000 }) (disch := omega) only [go_sem, ↓reduceIte, Nat.reduceEqDiff, Nat.reduceAdd, Nat.reduceLT, Nat.reduceLeDiff, Nat.reduceSub, tNew, tL14, tBel, tPp, tOnc, pr_eta, fN, fL, fS, hg, ho, or0_t]))) | ((with_reducible show Awp _ _ (Code.region _ _ _) _ _); (first | refine awp_regK (by repeat constructor) (fun K hK => ?_) | (refine awp_drwK (by kernel_rfl) (by repeat constructor) (fun K hK => ?_))); simp (config := { maxSteps := 2000000 }) (disch := omega) only [go_sem, ↓reduceIte, Nat.reduceEqDiff, Nat.reduceAdd, Nat.reduceLT, Nat.reduceLeDiff, Nat.reduceSub, tNew, tL14, tBel, tPp, tOnc, pr_eta, fN, fL, fS, hg, ho, or0_t]) | ((with_reducible show Awp _ _ (Code.cond _ _ _) _ _); refine awp_cond rfl (fun h => ?_) (fun h => ?_) <;> (try simp only [hsA, hsB, hsC, hsD, List.all_cons, List.all_nil, ne_eq, reduceCtorEq, inR_iff, inR_not, isSet_iff, isSet_not] at h)) | ((with_reducible refine awp_skip ?_); simp only [thn_n, blk_n, fin_n, finm_n]) | ((with_reducible refine awp_ret ?_); simp only [thn_r, blk_r, fin_r, finm_r]) | (with_reducible refine awp_block ?_) | ((with_reducible refine awp_exit ?_); simp only [thn_e, blk_e, blk_x, blk_n, thn_n, ne_eq, not_false_eq_true, Nat.reduceEqDiff, reduceCtorEq]; first | (refine hK _ ?_; clear hK K) | (clear hK K; refine hK _ ?_; clear hK K) | (clear hK K; clear hK K; refine hK _ ?_; clear hK K) | (clear hK K; clear hK K; clear hK K; refine hK _ ?_; clear hK K) | skip) | (with_reducible apply And.intro) | (with_reducible exact True.intro) | ((with_reducible show List.all _ _ = true); rfl) | ((with_reducible show lendOk _ _ = true); rfl) | omega | ((first | (with_reducible show ¬ _) | (with_reducible show _ → _)); intro h; first | contradiction | cases h; done | skip)
      all_goals (try (first | refine fin_keep ?_ | refine finm_keep ?_; repeat clear hK))
      all_goals try exact fin_pairii (d := tPair) (j := 2) rfl rfl rfl rfl rfl rfl rfl rfl
end Go.Proofs.Ytjlpjkiadohkiaa
