import Derived.Test.YtjlpjkiadohkiaaT74
import Derived.Test.YtjlpjkiadohkiaaHs
import Derived.Test.YtjlpjkiadohkiaaT63
set_option linter.unusedSimpArgs false
set_option linter.unusedVariables false
set_option maxHeartbeats 2000000
namespace Go.Proofs.Ytjlpjkiadohkiaa
open Go Go.Ab
attribute [local irreducible] aol
attribute [local irreducible] popN


theorem fin_t1 {C : Cfg} {t : Tmp} {out : AV} {Ho : List AO} {s : ASt} (σ : List Nat) (h0 : nth s.fr t = out.ren σ) (h1 : nodupB σ = true) (h3 : σ.map (fun i => s.hp[i]?) = Ho.map (fun o => some (o.ren σ))) : FinS C [.tmp t] out Ho s :=
  ⟨s, Wk.refl s, _, _, rfl, ⟨trivial, trivial⟩, σ, nodupB_spec h1, h0, h3⟩
theorem fin_t2 {C : Cfg} {t u : Tmp} {out : AV} {Ho : List AO} {s : ASt} (σ : List Nat) (h0 : AV.tu [nth s.fr t, nth s.fr u] = out.ren σ) (h1 : nodupB σ = true) (h3 : σ.map (fun i => s.hp[i]?) = Ho.map (fun o => some (o.ren σ))) : FinS C [.tmp t, .tmp u] out Ho s :=
  ⟨s, Wk.refl s, _, _, rfl, ⟨trivial, trivial, trivial⟩, σ, nodupB_spec h1, h0, h3⟩
theorem finm_t2 {m : Nat} {C : Cfg} {t u : Tmp} {out : AV} {Ho : List AO} {s : ASt} (σ : List Nat) (h0 : AV.tu [nth s.fr t, nth s.fr u] = out.ren σ) (h1 : nodupB σ = true) (h2 : σ.take m = List.range m) (h3 : σ.map (fun i => s.hp[i]?) = Ho.map (fun o => some (o.ren σ))) : FinSM m C [.tmp t, .tmp u] out Ho s :=
  ⟨s, Wk.refl s, _, _, rfl, ⟨trivial, trivial, trivial⟩, σ, nodupB_spec h1, h2, h0, h3⟩
theorem after_rc {p : Prop} {out : AV} {E : TypeId} {wd : Nat} {rs : List (List Value)} {H : List AO} {K : AV → List AO → Prop} {L : Prop} : after (some (p, out, [.rc E wd rs])) H K L = (p ∧ K (out.shift H.length) (H ++ [.rc E wd rs])) := rfl
theorem after_row2 {p : Prop} {out : AV} {k k' : IntKind} {E E' : TypeId} {l l' : List Int} {H : List AO} {K : AV → List AO → Prop} {L : Prop} : after (some (p, out, [.row k E l, .row k' E' l'])) H K L = (p ∧ K (out.shift H.length) (H ++ [.row k E l, .row k' E' l'])) := rfl
/-- edges: none for no elements -/
def edZ (b : List Int) (n : Int) (k : Nat) (L : List (Int × Int × Int)) (s : Nat × Int) : List (Int × Int × Int) × (Nat × Int) := if 0 < n then edD b n k L s else (L, s)
def setTo (x : Int) : List (Int × Int × Int) → List (Int × Int × Int)
  | [] => []
  | e :: t => (e.1, x, e.2.2) :: t
theorem setTo_row {x : Int} {L : List (Int × Int × Int)} (h : 0 < L.length) : (L.map edgC).set 0 (((L.map edgC).getD 0 []).set 1 (.int .i64 x)) = (setTo x L).map edgC := by
  cases L with
  | nil => simp at h
  | cons e t => rfl
def dc0 (b : List Int) : Nat × Int := newV b
def dcM (b : List Int) : Int := belowX b 6 (dc0 b)
def dcK (b : List Int) : Int := belowX b 7 (belowS b 6 (dc0 b))
def dcE (b : List Int) : List (Int × Int × Int) × (Nat × Int) := edZ b (dcM b) (dcK b).toNat [] (belowS b 7 (belowS b 6 (dc0 b)))
def dcO (b : List Int) : Bool := decide (0 < (dcE b).1.length) && onceX b 8 (dcE b).2
def dcT (b : List Int) : Nat × Int := if 0 < (dcE b).1.length then belowS b 8 (dcE b).2 else (dcE b).2
def dcR (b : List Int) : List (Int × Int × Int) := if dcO b = true then setTo (pickX b [-1, 5, 9223372036854775807] (dcT b)) (dcE b).1 else (dcE b).1
def dcU (b : List Int) : Nat × Int := if dcO b = true then belowS b 3 (dcT b) else dcT b
def dcN (b : List Int) : Int := if onceX b 14 (dcU b) = true then pickX b [-1, 6, 0, -9223372036854775808] (belowS b 14 (dcU b)) else dcM b
theorem edZ_len (b : List Int) (n : Int) : ∀ (k : Nat) (L : List (Int × Int × Int)) (s : Nat × Int), (edZ b n k L s).1.length ≤ L.length + k := by
  have h : ∀ (k : Nat) (L : List (Int × Int × Int)) (s : Nat × Int), (edD b n k L s).1.length ≤ L.length + k := by
    intro k
    induction k with
    | zero => intro L s; exact Nat.le_refl _
    | succ k ih => intro L s; have := ih (L ++ [(belowX b n s, belowX b n (belowS b n s), belowX b 4 (belowS b n (belowS b n s)))]) (belowS b 4 (belowS b n (belowS b n s))); rw [List.length_append, List.length_singleton] at this; show (edD b n k _ _).1.length ≤ _; omega
  intro k L s
  unfold edZ
  split
  · exact h k L s
  · simp
theorem setTo_len (x : Int) (L : List (Int × Int × Int)) : (setTo x L).length = L.length := by cases L <;> rfl
theorem dcE_len (b : List Int) : (dcE b).1.length ≤ 7 := by
  have h1 := edZ_len b (dcM b) (dcK b).toNat [] (belowS b 7 (belowS b 6 (dc0 b)))
  have h2 := belowX_bd b (n := 7) (by omega) (belowS b 6 (dc0 b))
  have h3 : dcK b < 7 := h2.2
  show (edZ b _ _ _ _).1.length ≤ 7
  simp only [List.length_nil] at h1
  omega
theorem dcR_len (b : List Int) : (dcR b).length ≤ 7 := by
  have := dcE_len b
  unfold dcR; split
  · rw [setTo_len]; exact this
  · exact this
def tDrC4 : Tab
  | [.sl .u8 b] => some (b.length ≤ 1048576, .tu [.i (dcN b), .own 0], [.rc 120 3 ((dcR b).map edgC)])
  | _ => none
theorem l4D_ok : Fits Try.prog 171 tDrC4 := by
  refine ⟨callable_of Try.func171 (by kernel_rfl) rfl, ?_⟩
  intro args p out Ho h hp
  unfold tDrC4 at h
  split at h <;> cases h
  rename_i b
  refine ⟨acall_by (env_ok2 (env := []) (envM := [(131, tNew), (159, tBel), (165, tOnc), (176, tPkI)]) (by simp) (by simp only [List.forall_mem_cons, List.not_mem_nil, false_implies, implies_true, and_true]; exact ⟨new_ok, bel_ok, onc_ok, pkI_ok⟩)) Try.func171 rfl rfl rfl rfl rfl ?_, rfl, rfl⟩
  intro hlen c hc hX
  simp only [lensOk, AV.lenOk, true_and, and_true] at hlen
  simp only [Try.ntmps171, Try.results171, List.length_cons, List.length_nil, List.replicate, List.cons_append, List.nil_append, Nat.reduceAdd, Nat.reduceSub]
  have c3 : ((3 : Nat) : Int) = 3 := rfl
  have c4 : ((4 : Nat) : Int) = 4 := rfl
  have fM : belowX b 6 (newV b) = dcM b := rfl
  have fK : belowX b 7 (belowS b 6 (newV b)) = dcK b := rfl
  have hm : 0 ≤ dcM b ∧ dcM b < 6 := belowX_bd b (by omega) _
  have hk : 0 ≤ dcK b ∧ dcK b < 7 := belowX_bd b (by omega) _
  obtain ⟨k0, hk0⟩ := Int.eq_ofNat_of_zero_le hk.1
  obtain ⟨m, hmm⟩ : ∃ m, dcM b = m := ⟨_, rfl⟩
  rw [hmm] at hm
  repeat' first | ((with_reducible show aol _ _ _ _ _); first | (refine aol_guard_f (by rfl) ?_ ?_; (focus (simp only [go_sem]; done))) | (refine aol_guard_un (by rfl) ?_ ?_; (focus (simp only [go_sem]; done)))) | ((with_reducible refine hK _ ?_); clear hK K; try simp only [nxA, nxB]) | (with_reducible refine awp_seq fun K hK => ?_) | ((first | ((with_reducible show aol _ _ _ _ _); try first | (refine aol_guard_t (by rfl) ?_ ?_; (focus (simp only [go_sem]; done))) | (refine aol_guard_b (by rfl) (by rfl) (fun h => ?_) (fun h => ?_) <;> (try simp only [hsA, hsB, hsC, hsD, hsE, List.all_cons, List.all_nil, ne_eq, reduceCtorEq] at h))) | ((with_reducible show Awp _ _ (Code.region _ _ _) _ _); first | refine awp_regK (by repeat constructor) (fun K hK => ?_) | (refine awp_drwK (by kernel_rfl) (by repeat constructor) (fun K hK => ?_)))) <;> simp (config := { maxSteps := 2000000 }) (disch := omega) only [go_sem, ↓reduceIte, Nat.reduceEqDiff, Nat.reduceAdd, Nat.reduceLT, Nat.reduceLeDiff, Nat.reduceSub, tNew, tBel, pr_eta, fM, fK, hmm]) | ((with_reducible show Awp _ _ (Code.cond _ _ _) _ _); refine awp_cond rfl (fun h => ?_) (fun h => ?_) <;> (try simp only [hsA, hsB, hsC, hsD, hsE, List.all_cons, List.all_nil, ne_eq, reduceCtorEq] at h)) | ((with_reducible first | refine awp_skip ?_ | refine awp_ret ?_); simp only [nxA, nxB]) | (with_reducible refine awp_block ?_) | ((with_reducible refine awp_exit ?_); simp only [nxA, ne_eq, not_false_eq_true, Nat.reduceEqDiff, reduceCtorEq]; try ((first | refine hK _ ?_ | (clear hK K; first | refine hK _ ?_ | (clear hK K; first | refine hK _ ?_ | (clear hK K; refine hK _ ?_)))); clear hK K)) | (with_reducible first | apply And.intro | exact True.intro) | ((with_reducible first | show List.all _ _ = true | show lendOk _ _ = true); rfl) | omega | ((with_reducible first | show ¬ _ | show _ → _); intro h; first | contradiction | cases h; done | skip)
  all_goals (try (first | refine fin_keep ?_ | refine finm_keep ?_; repeat clear hK))
  refine awp_forR 0 hX (fun st (x : Nat × List (Int × Int × Int) × (Nat × Int)) => st.at [4, 5] [(6, .own 1), (7, .i x.1)] [.box 135 [.sl .u8 b, .i (x.2.2.1 : Int), .i x.2.2.2], .rc 120 3 (x.2.1.map edgC)])
    (fun x => x.2.1.length + x.1 ≤ 7 ∧ edZ b m x.1 x.2.1 x.2.2 = dcE b) (fun x => x.1) (k0, [], belowS b 7 (belowS b 6 (newV b))) ⟨by simp only [List.length_nil]; omega, ?_⟩ ?_ ?_
  · show edZ b m k0 [] _ = edZ b (dcM b) (dcK b).toNat [] _
    rw [hk0, Int.toNat_natCast, hmm]; rfl
  · exact ⟨[0, 1], rfl, rfl, by simp [-List.getD_eq_getElem?_getD, -List.length_take, List.getD_cons_zero, List.getD_cons_succ, leFr, ASt.at, keepFr, updAll, upd_zero, upd_succ, AV.rnb, AV.rnb0, hk0, List.map_nil], by simp [-List.getD_eq_getElem?_getD, List.getD_cons_zero, List.getD_cons_succ, ASt.at, AO.rnb, AV.rnb0, upd_k0, upd_k1, upd_k2, upd_k3, hk0, List.map_nil], rfl, rfl⟩
  rintro ⟨k, L, s⟩ ⟨hlen2, hd⟩
  simp only [ASt.at, keepFr, updAll, upd_zero, upd_succ, List.mem_cons, List.not_mem_nil, Nat.reduceEqDiff, Nat.reduceAdd, or_false, or_true, false_or, true_or, ↓reduceIte, eq_self]
  have hll : (L.map edgC).length = L.length := List.length_map ..
  have hl2 : L.length + k ≤ 7 := hlen2
  by_cases hgo : 0 < m ∧ 0 < k
  · obtain ⟨hm0, hk1⟩ := hgo
    cases k with
    | zero => omega
    | succ k =>
      have hd' : edZ b m k (L ++ [(belowX b m s, belowX b m (belowS b m s), belowX b 4 (belowS b m (belowS b m s)))]) (belowS b 4 (belowS b m (belowS b m s))) = dcE b := by
        have hd2 : edZ b m (k + 1) L s = dcE b := hd
        unfold edZ at hd2 ⊢
        rw [if_pos hm0] at hd2 ⊢
        exact hd2
      repeat' first | ((with_reducible show aol _ _ _ _ _); first | (refine aol_guard_f (by rfl) ?_ ?_; (focus (simp only [go_sem]; done))) | (refine aol_guard_un (by rfl) ?_ ?_; (focus (simp only [go_sem]; done)))) | ((with_reducible refine hK _ ?_); clear hK K; try simp only [nxA, nxB]) | (with_reducible refine awp_seq fun K hK => ?_) | ((first | ((with_reducible show aol _ _ _ _ _); try first | (refine aol_guard_t (by rfl) ?_ ?_; (focus (simp only [go_sem]; done))) | (refine aol_guard_b (by rfl) (by rfl) (fun h => ?_) (fun h => ?_) <;> (try simp only [hsA, hsB, hsC, hsD, hsE, List.all_cons, List.all_nil, ne_eq, reduceCtorEq] at h))) | ((with_reducible show Awp _ _ (Code.region _ _ _) _ _); first | refine awp_regK (by repeat constructor) (fun K hK => ?_) | (refine awp_drwK (by kernel_rfl) (by repeat constructor) (fun K hK => ?_)))) <;> simp (config := { maxSteps := 2000000 }) (disch := omega) only [go_sem, ↓reduceIte, Nat.reduceEqDiff, Nat.reduceAdd, Nat.reduceLT, Nat.reduceLeDiff, Nat.reduceSub, tBel, pr_eta, hll]) | ((with_reducible show Awp _ _ (Code.cond _ _ _) _ _); refine awp_cond rfl (fun h => ?_) (fun h => ?_) <;> (try simp only [hsA, hsB, hsC, hsD, hsE, List.all_cons, List.all_nil, ne_eq, reduceCtorEq] at h)) | ((with_reducible first | refine awp_skip ?_ | refine awp_ret ?_); simp only [nxA, nxB]) | (with_reducible refine awp_block ?_) | ((with_reducible refine awp_exit ?_); simp only [nxA, ne_eq, not_false_eq_true, Nat.reduceEqDiff, reduceCtorEq]; try ((first | refine hK _ ?_ | (clear hK K; first | refine hK _ ?_ | (clear hK K; first | refine hK _ ?_ | (clear hK K; refine hK _ ?_)))); clear hK K)) | (with_reducible first | apply And.intro | exact True.intro) | ((with_reducible first | show List.all _ _ = true | show lendOk _ _ = true); rfl) | omega | ((with_reducible first | show ¬ _ | show _ → _); intro h; first | contradiction | cases h; done | skip)
      all_goals (try (first | refine fin_keep ?_ | refine finm_keep ?_; repeat clear hK))
      refine ⟨(k, L ++ [(belowX b m s, belowX b m (belowS b m s), belowX b 4 (belowS b m (belowS b m s)))], belowS b 4 (belowS b m (belowS b m s))), ⟨by show (L ++ [_]).length + k ≤ 7; rw [List.length_append, List.length_singleton]; omega, hd'⟩, Nat.lt_succ_self k, ?_⟩
      exact ⟨[0, 3], rfl, rfl, by simp [-List.getD_eq_getElem?_getD, -List.length_take, List.getD_cons_zero, List.getD_cons_succ, leFr, ASt.at, keepFr, updAll, upd_zero, upd_succ, AV.rnb, AV.rnb0, List.map_append, List.map_cons, List.map_nil, edgC], by simp [-List.getD_eq_getElem?_getD, List.getD_cons_zero, List.getD_cons_succ, ASt.at, AO.rnb, AV.rnb0, upd_k0, upd_k1, upd_k2, upd_k3, List.map_append, List.map_cons, List.map_nil, edgC], rfl, rfl⟩
  · have hE : dcE b = (L, s) := by
      have hd2 : edZ b m k L s = dcE b := hd
      rw [← hd2]
      unfold edZ
      by_cases hm0 : 0 < m
      · have : k = 0 := by omega
        subst this
        rw [if_pos hm0]; rfl
      · rw [if_neg hm0]
    have hgo' : ¬ (0 < (k : Int) ∧ 0 < m) := by omega
    by_cases hL : 0 < L.length
    · cases ho : onceX b 8 s with
      | true =>
        have eO : dcO b = true := by unfold dcO; rw [hE, decide_eq_true hL, ho]; rfl
        have eT : dcT b = belowS b 8 s := by unfold dcT; rw [hE, if_pos hL]
        have eR : dcR b = setTo (pickX b [-1, 5, 9223372036854775807] (belowS b 8 s)) L := by unfold dcR; rw [if_pos eO, hE, eT]
        have eU : dcU b = belowS b 3 (belowS b 8 s) := by unfold dcU; rw [if_pos eO, eT]
        have hrow := setTo_row (x := pickX b [-1, 5, 9223372036854775807] (belowS b 8 s)) hL
        cases ho2 : onceX b 14 (belowS b 3 (belowS b 8 s)) with
        | true =>
          have eN : dcN b = pickX b [-1, 6, 0, -9223372036854775808] (belowS b 14 (belowS b 3 (belowS b 8 s))) := by unfold dcN; rw [eU, if_pos ho2]
          repeat' first | ((with_reducible show aol _ _ _ _ _); first | (refine aol_guard_f (by rfl) ?_ ?_; (focus (simp only [go_sem]; done))) | (refine aol_guard_un (by rfl) ?_ ?_; (focus (simp only [go_sem]; done)))) | ((with_reducible refine hK _ ?_); clear hK K; try simp only [nxA, nxB]) | (with_reducible refine awp_seq fun K hK => ?_) | ((first | ((with_reducible show aol _ _ _ _ _); try first | (refine aol_guard_t (by rfl) ?_ ?_; (focus (simp only [go_sem]; done))) | (refine aol_guard_b (by rfl) (by rfl) (fun h => ?_) (fun h => ?_) <;> (try simp only [hsA, hsB, hsC, hsD, hsE, List.all_cons, List.all_nil, ne_eq, reduceCtorEq] at h))) | ((with_reducible show Awp _ _ (Code.region _ _ _) _ _); first | refine awp_regK (by repeat constructor) (fun K hK => ?_) | (refine awp_drwK (by kernel_rfl) (by repeat constructor) (fun K hK => ?_)))) <;> simp (config := { maxSteps := 2000000 }) (disch := omega) only [go_sem, ↓reduceIte, Nat.reduceEqDiff, Nat.reduceAdd, Nat.reduceLT, Nat.reduceLeDiff, Nat.reduceSub, tBel, tOnc, tPkI, pr_eta, hll, c3, c4, ho, ho2]) | ((with_reducible show Awp _ _ (Code.cond _ _ _) _ _); refine awp_cond rfl (fun h => ?_) (fun h => ?_) <;> (try simp only [hsA, hsB, hsC, hsD, hsE, List.all_cons, List.all_nil, ne_eq, reduceCtorEq] at h)) | ((with_reducible first | refine awp_skip ?_ | refine awp_ret ?_); simp only [nxA, nxB]) | (with_reducible refine awp_block ?_) | ((with_reducible refine awp_exit ?_); simp only [nxA, ne_eq, not_false_eq_true, Nat.reduceEqDiff, reduceCtorEq]; try ((first | refine hK _ ?_ | (clear hK K; first | refine hK _ ?_ | (clear hK K; first | refine hK _ ?_ | (clear hK K; refine hK _ ?_)))); clear hK K)) | (with_reducible first | apply And.intro | exact True.intro) | ((with_reducible first | show List.all _ _ = true | show lendOk _ _ = true); rfl) | omega | ((with_reducible first | show ¬ _ | show _ → _); intro h; first | contradiction | cases h; done | skip)
          all_goals (try (first | refine fin_keep ?_ | refine finm_keep ?_; repeat clear hK))
          all_goals (rw [eN, eR, ← hrow]; exact fin_t2 [1] rfl rfl rfl)
        | false =>
          have eN : dcN b = m := by unfold dcN; rw [eU, if_neg (by rw [ho2]; decide), hmm]
          repeat' first | ((with_reducible show aol _ _ _ _ _); first | (refine aol_guard_f (by rfl) ?_ ?_; (focus (simp only [go_sem]; done))) | (refine aol_guard_un (by rfl) ?_ ?_; (focus (simp only [go_sem]; done)))) | ((with_reducible refine hK _ ?_); clear hK K; try simp only [nxA, nxB]) | (with_reducible refine awp_seq fun K hK => ?_) | ((first | ((with_reducible show aol _ _ _ _ _); try first | (refine aol_guard_t (by rfl) ?_ ?_; (focus (simp only [go_sem]; done))) | (refine aol_guard_b (by rfl) (by rfl) (fun h => ?_) (fun h => ?_) <;> (try simp only [hsA, hsB, hsC, hsD, hsE, List.all_cons, List.all_nil, ne_eq, reduceCtorEq] at h))) | ((with_reducible show Awp _ _ (Code.region _ _ _) _ _); first | refine awp_regK (by repeat constructor) (fun K hK => ?_) | (refine awp_drwK (by kernel_rfl) (by repeat constructor) (fun K hK => ?_)))) <;> simp (config := { maxSteps := 2000000 }) (disch := omega) only [go_sem, ↓reduceIte, Nat.reduceEqDiff, Nat.reduceAdd, Nat.reduceLT, Nat.reduceLeDiff, Nat.reduceSub, tBel, tOnc, tPkI, pr_eta, hll, c3, c4, ho, ho2]) | ((with_reducible show Awp _ _ (Code.cond _ _ _) _ _); refine awp_cond rfl (fun h => ?_) (fun h => ?_) <;> (try simp only [hsA, hsB, hsC, hsD, hsE, List.all_cons, List.all_nil, ne_eq, reduceCtorEq] at h)) | ((with_reducible first | refine awp_skip ?_ | refine awp_ret ?_); simp only [nxA, nxB]) | (with_reducible refine awp_block ?_) | ((with_reducible refine awp_exit ?_); simp only [nxA, ne_eq, not_false_eq_true, Nat.reduceEqDiff, reduceCtorEq]; try ((first | refine hK _ ?_ | (clear hK K; first | refine hK _ ?_ | (clear hK K; first | refine hK _ ?_ | (clear hK K; refine hK _ ?_)))); clear hK K)) | (with_reducible first | apply And.intro | exact True.intro) | ((with_reducible first | show List.all _ _ = true | show lendOk _ _ = true); rfl) | omega | ((with_reducible first | show ¬ _ | show _ → _); intro h; first | contradiction | cases h; done | skip)
          all_goals (try (first | refine fin_keep ?_ | refine finm_keep ?_; repeat clear hK))
          all_goals (rw [eN, eR, ← hrow]; exact fin_t2 [1] rfl rfl rfl)
      | false =>
        have eO : ¬ dcO b = true := by unfold dcO; rw [hE, ho, Bool.and_false]; decide
        have eT : dcT b = belowS b 8 s := by unfold dcT; rw [hE, if_pos hL]
        have eR : dcR b = L := by unfold dcR; rw [if_neg eO, hE]
        have eU : dcU b = belowS b 8 s := by unfold dcU; rw [if_neg eO, eT]
        cases ho2 : onceX b 14 (belowS b 8 s) with
        | true =>
          have eN : dcN b = pickX b [-1, 6, 0, -9223372036854775808] (belowS b 14 (belowS b 8 s)) := by unfold dcN; rw [eU, if_pos ho2]
          repeat' first | ((with_reducible show aol _ _ _ _ _); first | (refine aol_guard_f (by rfl) ?_ ?_; (focus (simp only [go_sem]; done))) | (refine aol_guard_un (by rfl) ?_ ?_; (focus (simp only [go_sem]; done)))) | ((with_reducible refine hK _ ?_); clear hK K; try simp only [nxA, nxB]) | (with_reducible refine awp_seq fun K hK => ?_) | ((first | ((with_reducible show aol _ _ _ _ _); try first | (refine aol_guard_t (by rfl) ?_ ?_; (focus (simp only [go_sem]; done))) | (refine aol_guard_b (by rfl) (by rfl) (fun h => ?_) (fun h => ?_) <;> (try simp only [hsA, hsB, hsC, hsD, hsE, List.all_cons, List.all_nil, ne_eq, reduceCtorEq] at h))) | ((with_reducible show Awp _ _ (Code.region _ _ _) _ _); first | refine awp_regK (by repeat constructor) (fun K hK => ?_) | (refine awp_drwK (by kernel_rfl) (by repeat constructor) (fun K hK => ?_)))) <;> simp (config := { maxSteps := 2000000 }) (disch := omega) only [go_sem, ↓reduceIte, Nat.reduceEqDiff, Nat.reduceAdd, Nat.reduceLT, Nat.reduceLeDiff, Nat.reduceSub, tBel, tOnc, tPkI, pr_eta, hll, c3, c4, ho, ho2]) | ((with_reducible show Awp _ _ (Code.cond _ _ _) _ _); refine awp_cond rfl (fun h => ?_) (fun h => ?_) <;> (try simp only [hsA, hsB, hsC, hsD, hsE, List.all_cons, List.all_nil, ne_eq, reduceCtorEq] at h)) | ((with_reducible first | refine awp_skip ?_ | refine awp_ret ?_); simp only [nxA, nxB]) | (with_reducible refine awp_block ?_) | ((with_reducible refine awp_exit ?_); simp only [nxA, ne_eq, not_false_eq_true, Nat.reduceEqDiff, reduceCtorEq]; try ((first | refine hK _ ?_ | (clear hK K; first | refine hK _ ?_ | (clear hK K; first | refine hK _ ?_ | (clear hK K; refine hK _ ?_)))); clear hK K)) | (with_reducible first | apply And.intro | exact True.intro) | ((with_reducible first | show List.all _ _ = true | show lendOk _ _ = true); rfl) | omega | ((with_reducible first | show ¬ _ | show _ → _); intro h; first | contradiction | cases h; done | skip)
          all_goals (try (first | refine fin_keep ?_ | refine finm_keep ?_; repeat clear hK))
          all_goals (rw [eN, eR]; exact fin_t2 [1] rfl rfl rfl)
        | false =>
          have eN : dcN b = m := by unfold dcN; rw [eU, if_neg (by rw [ho2]; decide), hmm]
          repeat' first | ((with_reducible show aol _ _ _ _ _); first | (refine aol_guard_f (by rfl) ?_ ?_; (focus (simp only [go_sem]; done))) | (refine aol_guard_un (by rfl) ?_ ?_; (focus (simp only [go_sem]; done)))) | ((with_reducible refine hK _ ?_); clear hK K; try simp only [nxA, nxB]) | (with_reducible refine awp_seq fun K hK => ?_) | ((first | ((with_reducible show aol _ _ _ _ _); try first | (refine aol_guard_t (by rfl) ?_ ?_; (focus (simp only [go_sem]; done))) | (refine aol_guard_b (by rfl) (by rfl) (fun h => ?_) (fun h => ?_) <;> (try simp only [hsA, hsB, hsC, hsD, hsE, List.all_cons, List.all_nil, ne_eq, reduceCtorEq] at h))) | ((with_reducible show Awp _ _ (Code.region _ _ _) _ _); first | refine awp_regK (by repeat constructor) (fun K hK => ?_) | (refine awp_drwK (by kernel_rfl) (by repeat constructor) (fun K hK => ?_)))) <;> simp (config := { maxSteps := 2000000 }) (disch := omega) only [go_sem, ↓reduceIte, Nat.reduceEqDiff, Nat.reduceAdd, Nat.reduceLT, Nat.reduceLeDiff, Nat.reduceSub, tBel, tOnc, tPkI, pr_eta, hll, c3, c4, ho, ho2]) | ((with_reducible show Awp _ _ (Code.cond _ _ _) _ _); refine awp_cond rfl (fun h => ?_) (fun h => ?_) <;> (try simp only [hsA, hsB, hsC, hsD, hsE, List.all_cons, List.all_nil, ne_eq, reduceCtorEq] at h)) | ((with_reducible first | refine awp_skip ?_ | refine awp_ret ?_); simp only [nxA, nxB]) | (with_reducible refine awp_block ?_) | ((with_reducible refine awp_exit ?_); simp only [nxA, ne_eq, not_false_eq_true, Nat.reduceEqDiff, reduceCtorEq]; try ((first | refine hK _ ?_ | (clear hK K; first | refine hK _ ?_ | (clear hK K; first | refine hK _ ?_ | (clear hK K; refine hK _ ?_)))); clear hK K)) | (with_reducible first | apply And.intro | exact True.intro) | ((with_reducible first | show List.all _ _ = true | show lendOk _ _ = true); rfl) | omega | ((with_reducible first | show ¬ _ | show _ → _); intro h; first | contradiction | cases h; done | skip)
          all_goals (try (first | refine fin_keep ?_ | refine finm_keep ?_; repeat clear hK))
          all_goals (rw [eN, eR]; exact fin_t2 [1] rfl rfl rfl)
    · have eO : ¬ dcO b = true := by unfold dcO; rw [hE, decide_eq_false hL, Bool.false_and]; decide
      have eT : dcT b = s := by unfold dcT; rw [hE, if_neg hL]
      have eR : dcR b = L := by unfold dcR; rw [if_neg eO, hE]
      have eU : dcU b = s := by unfold dcU; rw [if_neg eO, eT]
      cases ho2 : onceX b 14 s with
      | true =>
        have eN : dcN b = pickX b [-1, 6, 0, -9223372036854775808] (belowS b 14 s) := by unfold dcN; rw [eU, if_pos ho2]
        repeat' first | ((with_reducible show aol _ _ _ _ _); first | (refine aol_guard_f (by rfl) ?_ ?_; (focus (simp only [go_sem]; done))) | (refine aol_guard_un (by rfl) ?_ ?_; (focus (simp only [go_sem]; done)))) | ((with_reducible refine hK _ ?_); clear hK K; try simp only [nxA, nxB]) | (with_reducible refine awp_seq fun K hK => ?_) | ((first | ((with_reducible show aol _ _ _ _ _); try first | (refine aol_guard_t (by rfl) ?_ ?_; (focus (simp only [go_sem]; done))) | (refine aol_guard_b (by rfl) (by rfl) (fun h => ?_) (fun h => ?_) <;> (try simp only [hsA, hsB, hsC, hsD, hsE, List.all_cons, List.all_nil, ne_eq, reduceCtorEq] at h))) | ((with_reducible show Awp _ _ (Code.region _ _ _) _ _); first | refine awp_regK (by repeat constructor) (fun K hK => ?_) | (refine awp_drwK (by kernel_rfl) (by repeat constructor) (fun K hK => ?_)))) <;> simp (config := { maxSteps := 2000000 }) (disch := omega) only [go_sem, ↓reduceIte, Nat.reduceEqDiff, Nat.reduceAdd, Nat.reduceLT, Nat.reduceLeDiff, Nat.reduceSub, tBel, tOnc, tPkI, pr_eta, hll, c3, c4, ho2]) | ((with_reducible show Awp _ _ (Code.cond _ _ _) _ _); refine awp_cond rfl (fun h => ?_) (fun h => ?_) <;> (try simp only [hsA, hsB, hsC, hsD, hsE, List.all_cons, List.all_nil, ne_eq, reduceCtorEq] at h)) | ((with_reducible first | refine awp_skip ?_ | refine awp_ret ?_); simp only [nxA, nxB]) | (with_reducible refine awp_block ?_) | ((with_reducible refine awp_exit ?_); simp only [nxA, ne_eq, not_false_eq_true, Nat.reduceEqDiff, reduceCtorEq]; try ((first | refine hK _ ?_ | (clear hK K; first | refine hK _ ?_ | (clear hK K; first | refine hK _ ?_ | (clear hK K; refine hK _ ?_)))); clear hK K)) | (with_reducible first | apply And.intro | exact True.intro) | ((with_reducible first | show List.all _ _ = true | show lendOk _ _ = true); rfl) | omega | ((with_reducible first | show ¬ _ | show _ → _); intro h; first | contradiction | cases h; done | skip)
        all_goals (try (first | refine fin_keep ?_ | refine finm_keep ?_; repeat clear hK))
        all_goals (rw [eN, eR]; exact fin_t2 [1] rfl rfl rfl)
      | false =>
        have eN : dcN b = m := by unfold dcN; rw [eU, if_neg (by rw [ho2]; decide), hmm]
        repeat' first | ((with_reducible show aol _ _ _ _ _); first | (refine aol_guard_f (by rfl) ?_ ?_; (focus (simp only [go_sem]; done))) | (refine aol_guard_un (by rfl) ?_ ?_; (focus (simp only [go_sem]; done)))) | ((with_reducible refine hK _ ?_); clear hK K; try simp only [nxA, nxB]) | (with_reducible refine awp_seq fun K hK => ?_) | ((first | ((with_reducible show aol _ _ _ _ _); try first | (refine aol_guard_t (by rfl) ?_ ?_; (focus (simp only [go_sem]; done))) | (refine aol_guard_b (by rfl) (by rfl) (fun h => ?_) (fun h => ?_) <;> (try simp only [hsA, hsB, hsC, hsD, hsE, List.all_cons, List.all_nil, ne_eq, reduceCtorEq] at h))) | ((with_reducible show Awp _ _ (Code.region _ _ _) _ _); first | refine awp_regK (by repeat constructor) (fun K hK => ?_) | (refine awp_drwK (by kernel_rfl) (by repeat constructor) (fun K hK => ?_)))) <;> simp (config := { maxSteps := 2000000 }) (disch := omega) only [go_sem, ↓reduceIte, Nat.reduceEqDiff, Nat.reduceAdd, Nat.reduceLT, Nat.reduceLeDiff, Nat.reduceSub, tBel, tOnc, tPkI, pr_eta, hll, c3, c4, ho2]) | ((with_reducible show Awp _ _ (Code.cond _ _ _) _ _); refine awp_cond rfl (fun h => ?_) (fun h => ?_) <;> (try simp only [hsA, hsB, hsC, hsD, hsE, List.all_cons, List.all_nil, ne_eq, reduceCtorEq] at h)) | ((with_reducible first | refine awp_skip ?_ | refine awp_ret ?_); simp only [nxA, nxB]) | (with_reducible refine awp_block ?_) | ((with_reducible refine awp_exit ?_); simp only [nxA, ne_eq, not_false_eq_true, Nat.reduceEqDiff, reduceCtorEq]; try ((first | refine hK _ ?_ | (clear hK K; first | refine hK _ ?_ | (clear hK K; first | refine hK _ ?_ | (clear hK K; refine hK _ ?_)))); clear hK K)) | (with_reducible first | apply And.intro | exact True.intro) | ((with_reducible first | show List.all _ _ = true | show lendOk _ _ = true); rfl) | omega | ((with_reducible first | show ¬ _ | show _ → _); intro h; first | contradiction | cases h; done | skip)
        all_goals (try (first | refine fin_keep ?_ | refine finm_keep ?_; repeat clear hK))
        all_goals (rw [eN, eR]; exact fin_t2 [1] rfl rfl rfl)
theorem drCut_ok : Fits Try.prog 66 tDrC4 := by
  refine ⟨callable_of Try.func66 (by kernel_rfl) rfl, ?_⟩
  intro args p out Ho h hp
  unfold tDrC4 at h
  split at h <;> cases h
  rename_i b
  refine ⟨acall_by (env_ok (env := [(171, tDrC4)]) (by simp only [List.forall_mem_cons, List.not_mem_nil, false_implies, implies_true, and_true]; exact l4D_ok)) Try.func66 rfl rfl rfl rfl rfl ?_, rfl, rfl⟩
  intro hlen c hc hX
  simp only [lensOk, AV.lenOk, true_and, and_true] at hlen
  simp only [Try.ntmps66, Try.results66, List.length_cons, List.length_nil, List.replicate, List.cons_append, List.nil_append, Nat.reduceAdd, Nat.reduceSub]
  have hl := dcR_len b
  have hll : ((dcR b).map edgC).length = (dcR b).length := List.length_map ..
  repeat' first | ((with_reducible show aol _ _ _ _ _); first | (refine aol_guard_f (by rfl) ?_ ?_; (focus (simp only [go_sem]; done))) | (refine aol_guard_un (by rfl) ?_ ?_; (focus (simp only [go_sem]; done)))) | ((with_reducible refine hK _ ?_); clear hK K; try simp only [nxA, nxB]) | (with_reducible refine awp_seq fun K hK => ?_) | ((first | ((with_reducible show aol _ _ _ _ _); try first | (refine aol_guard_t (by rfl) ?_ ?_; (focus (simp only [go_sem]; done))) | (refine aol_guard_b (by rfl) (by rfl) (fun h => ?_) (fun h => ?_) <;> (try simp only [hsA, hsB, hsC, hsD, hsE, List.all_cons, List.all_nil, ne_eq, reduceCtorEq] at h))) | ((with_reducible show Awp _ _ (Code.region _ _ _) _ _); first | refine awp_regK (by repeat constructor) (fun K hK => ?_) | (refine awp_drwK (by kernel_rfl) (by repeat constructor) (fun K hK => ?_)))) <;> simp (config := { maxSteps := 2000000 }) (disch := omega) only [go_sem, ↓reduceIte, Nat.reduceEqDiff, Nat.reduceAdd, Nat.reduceLT, Nat.reduceLeDiff, Nat.reduceSub, tDrC4, hll, after_rc]) | ((with_reducible show Awp _ _ (Code.cond _ _ _) _ _); refine awp_cond rfl (fun h => ?_) (fun h => ?_) <;> (try simp only [hsA, hsB, hsC, hsD, hsE, List.all_cons, List.all_nil, ne_eq, reduceCtorEq] at h)) | ((with_reducible first | refine awp_skip ?_ | refine awp_ret ?_); simp only [nxA, nxB]) | (with_reducible refine awp_block ?_) | ((with_reducible refine awp_exit ?_); simp only [nxA, ne_eq, not_false_eq_true, Nat.reduceEqDiff, reduceCtorEq]; try ((first | refine hK _ ?_ | (clear hK K; first | refine hK _ ?_ | (clear hK K; first | refine hK _ ?_ | (clear hK K; refine hK _ ?_)))); clear hK K)) | (with_reducible first | apply And.intro | exact True.intro) | ((with_reducible first | show List.all _ _ = true | show lendOk _ _ = true); rfl) | omega | ((with_reducible first | show ¬ _ | show _ → _); intro h; first | contradiction | cases h; done | skip)
  all_goals (try (first | refine fin_keep ?_ | refine finm_keep ?_; repeat clear hK))
  exact fin_t2 [0] rfl rfl rfl

def cvD (b : List Int) (n : Int) : Nat → List (Int × Int) → Nat × Int → List (Int × Int) × (Nat × Int)
  | 0, L, s => (L, s)
  | k + 1, L, s => cvD b n k (L ++ [(belowX b (2 ^ n.toNat) s, belowX b 4 (belowS b (2 ^ n.toNat) s))]) (belowS b 4 (belowS b (2 ^ n.toNat) s))
def setSt (x : Int) : List (Int × Int) → List (Int × Int)
  | [] => []
  | e :: t => (x, e.2) :: t
theorem setSt_row {x : Int} {L : List (Int × Int)} (h : 0 < L.length) : (L.map blkC).set 0 (((L.map blkC).getD 0 []).set 0 (.int .i64 x)) = (setSt x L).map blkC := by
  cases L with
  | nil => simp at h
  | cons e t => rfl
theorem setSt_len (x : Int) (L : List (Int × Int)) : (setSt x L).length = L.length := by cases L <;> rfl
def dvN (b : List Int) : Int := belowX b 6 (newV b)
def dvK (b : List Int) : Int := belowX b 6 (belowS b 6 (newV b))
def dvE (b : List Int) : List (Int × Int) × (Nat × Int) := cvD b (dvN b) (dvK b).toNat [] (belowS b 6 (belowS b 6 (newV b)))
def dvO (b : List Int) : Bool := decide (0 < (dvE b).1.length) && onceX b 8 (dvE b).2
def dvR (b : List Int) : List (Int × Int) := if dvO b = true then setSt (pickX b [-1, 32, 9223372036854775807] (belowS b 8 (dvE b).2)) (dvE b).1 else (dvE b).1
theorem cvD_len (b : List Int) (n : Int) : ∀ (k : Nat) (L : List (Int × Int)) (s : Nat × Int), (cvD b n k L s).1.length ≤ L.length + k
  | 0, _, _ => Nat.le_refl _
  | k + 1, L, s => by
    have := cvD_len b n k (L ++ [(belowX b (2 ^ n.toNat) s, belowX b 4 (belowS b (2 ^ n.toNat) s))]) (belowS b 4 (belowS b (2 ^ n.toNat) s))
    rw [List.length_append, List.length_singleton] at this
    show (cvD b n k _ _).1.length ≤ _; omega
theorem dvR_len (b : List Int) : (dvR b).length ≤ 6 := by
  have h1 := cvD_len b (dvN b) (dvK b).toNat [] (belowS b 6 (belowS b 6 (newV b)))
  have h2 := belowX_bd b (n := 6) (by omega) (belowS b 6 (newV b))
  have h3 : dvK b < 6 := h2.2
  have h4 : (dvE b).1.length ≤ 6 := by show (cvD b _ _ _ _).1.length ≤ 6; simp only [List.length_nil] at h1; omega
  unfold dvR; split
  · rw [setSt_len]; exact h4
  · exact h4
def tDrCv : Tab
  | [.sl .u8 b] => some (b.length ≤ 1048576, .tu [.i (dvN b), .own 0], [.rc 122 2 ((dvR b).map blkC)])
  | _ => none
theorem drCv_ok : Fits Try.prog 71 tDrCv := by
  refine ⟨callable_of Try.func71 (by kernel_rfl) rfl, ?_⟩
  intro args p out Ho h hp
  unfold tDrCv at h
  split at h <;> cases h
  rename_i b
  refine ⟨acall_by (env_ok2 (env := []) (envM := [(131, tNew), (159, tBel), (165, tOnc), (176, tPkI)]) (by simp) (by simp only [List.forall_mem_cons, List.not_mem_nil, false_implies, implies_true, and_true]; exact ⟨new_ok, bel_ok, onc_ok, pkI_ok⟩)) Try.func71 rfl rfl rfl rfl rfl ?_, rfl, rfl⟩
  intro hlen c hc hX
  simp only [lensOk, AV.lenOk, true_and, and_true] at hlen
  simp only [Try.ntmps71, Try.results71, List.length_cons, List.length_nil, List.replicate, List.cons_append, List.nil_append, Nat.reduceAdd, Nat.reduceSub]
  have fM : belowX b 6 (newV b) = dvN b := rfl
  have fK : belowX b 6 (belowS b 6 (newV b)) = dvK b := rfl
  have hm : 0 ≤ dvN b ∧ dvN b < 6 := belowX_bd b (by omega) _
  have hk : 0 ≤ dvK b ∧ dvK b < 6 := belowX_bd b (by omega) _
  obtain ⟨k0, hk0⟩ := Int.eq_ofNat_of_zero_le hk.1
  obtain ⟨m, hmm⟩ : ∃ m, dvN b = m := ⟨_, rfl⟩
  rw [hmm] at hm ⊢
  have hsh := ishl_one (n := m) hm.1 (by omega)
  repeat' first | ((with_reducible show aol _ _ _ _ _); first | (refine aol_guard_f (by rfl) ?_ ?_; (focus (simp only [go_sem]; done))) | (refine aol_guard_un (by rfl) ?_ ?_; (focus (simp only [go_sem]; done)))) | ((with_reducible refine hK _ ?_); clear hK K; try simp only [nxA, nxB]) | (with_reducible refine awp_seq fun K hK => ?_) | ((first | ((with_reducible show aol _ _ _ _ _); try first | (refine aol_guard_t (by rfl) ?_ ?_; (focus (simp only [go_sem]; done))) | (refine aol_guard_b (by rfl) (by rfl) (fun h => ?_) (fun h => ?_) <;> (try simp only [hsA, hsB, hsC, hsD, hsE, List.all_cons, List.all_nil, ne_eq, reduceCtorEq] at h))) | ((with_reducible show Awp _ _ (Code.region _ _ _) _ _); first | refine awp_regK (by repeat constructor) (fun K hK => ?_) | (refine awp_drwK (by kernel_rfl) (by repeat constructor) (fun K hK => ?_)))) <;> simp (config := { maxSteps := 2000000 }) (disch := omega) only [go_sem, ↓reduceIte, Nat.reduceEqDiff, Nat.reduceAdd, Nat.reduceLT, Nat.reduceLeDiff, Nat.reduceSub, tNew, tBel, pr_eta, fM, fK, hmm]) | ((with_reducible show Awp _ _ (Code.cond _ _ _) _ _); refine awp_cond rfl (fun h => ?_) (fun h => ?_) <;> (try simp only [hsA, hsB, hsC, hsD, hsE, List.all_cons, List.all_nil, ne_eq, reduceCtorEq] at h)) | ((with_reducible first | refine awp_skip ?_ | refine awp_ret ?_); simp only [nxA, nxB]) | (with_reducible refine awp_block ?_) | ((with_reducible refine awp_exit ?_); simp only [nxA, ne_eq, not_false_eq_true, Nat.reduceEqDiff, reduceCtorEq]; try ((first | refine hK _ ?_ | (clear hK K; first | refine hK _ ?_ | (clear hK K; first | refine hK _ ?_ | (clear hK K; refine hK _ ?_)))); clear hK K)) | (with_reducible first | apply And.intro | exact True.intro) | ((with_reducible first | show List.all _ _ = true | show lendOk _ _ = true); rfl) | omega | ((with_reducible first | show ¬ _ | show _ → _); intro h; first | contradiction | cases h; done | skip)
  all_goals (try (first | refine fin_keep ?_ | refine finm_keep ?_; repeat clear hK))
  refine awp_forR 0 hX (fun st (x : Nat × List (Int × Int) × (Nat × Int)) => st.at [4, 5] [(6, .own 1), (7, .i x.1)] [.box 135 [.sl .u8 b, .i (x.2.2.1 : Int), .i x.2.2.2], .rc 122 2 (x.2.1.map blkC)])
    (fun x => x.2.1.length + x.1 ≤ 6 ∧ cvD b m x.1 x.2.1 x.2.2 = dvE b) (fun x => x.1) (k0, [], belowS b 6 (belowS b 6 (newV b))) ⟨by simp only [List.length_nil]; omega, ?_⟩ ?_ ?_
  · show cvD b m k0 [] _ = cvD b (dvN b) (dvK b).toNat [] _
    rw [hk0, Int.toNat_natCast, hmm]
  · exact ⟨[0, 1], rfl, rfl, by simp [-List.getD_eq_getElem?_getD, -List.length_take, List.getD_cons_zero, List.getD_cons_succ, leFr, ASt.at, keepFr, updAll, upd_zero, upd_succ, AV.rnb, AV.rnb0, hk0, List.map_nil], by simp [-List.getD_eq_getElem?_getD, List.getD_cons_zero, List.getD_cons_succ, ASt.at, AO.rnb, AV.rnb0, upd_k0, upd_k1, upd_k2, upd_k3, hk0, List.map_nil], rfl, rfl⟩
  rintro ⟨k, L, s⟩ ⟨hlen2, hd⟩
  simp only [ASt.at, keepFr, updAll, upd_zero, upd_succ, List.mem_cons, List.not_mem_nil, Nat.reduceEqDiff, Nat.reduceAdd, or_false, or_true, false_or, true_or, ↓reduceIte, eq_self]
  have hll : (L.map blkC).length = L.length := List.length_map ..
  have hl2 : L.length + k ≤ 6 := hlen2
  cases k with
  | succ k =>
    have hd' : cvD b m k (L ++ [(belowX b (2 ^ m.toNat) s, belowX b 4 (belowS b (2 ^ m.toNat) s))]) (belowS b 4 (belowS b (2 ^ m.toNat) s)) = dvE b := hd
    repeat' first | ((with_reducible show aol _ _ _ _ _); first | (refine aol_guard_f (by rfl) ?_ ?_; (focus (simp only [go_sem]; done))) | (refine aol_guard_un (by rfl) ?_ ?_; (focus (simp only [go_sem]; done)))) | ((with_reducible refine hK _ ?_); clear hK K; try simp only [nxA, nxB]) | (with_reducible refine awp_seq fun K hK => ?_) | ((first | ((with_reducible show aol _ _ _ _ _); try first | (refine aol_guard_t (by rfl) ?_ ?_; (focus (simp only [go_sem]; done))) | (refine aol_guard_b (by rfl) (by rfl) (fun h => ?_) (fun h => ?_) <;> (try simp only [hsA, hsB, hsC, hsD, hsE, List.all_cons, List.all_nil, ne_eq, reduceCtorEq] at h))) | ((with_reducible show Awp _ _ (Code.region _ _ _) _ _); first | refine awp_regK (by repeat constructor) (fun K hK => ?_) | (refine awp_drwK (by kernel_rfl) (by repeat constructor) (fun K hK => ?_)))) <;> simp (config := { maxSteps := 2000000 }) (disch := omega) only [go_sem, ↓reduceIte, Nat.reduceEqDiff, Nat.reduceAdd, Nat.reduceLT, Nat.reduceLeDiff, Nat.reduceSub, tBel, pr_eta, hll, hsh]) | ((with_reducible show Awp _ _ (Code.cond _ _ _) _ _); refine awp_cond rfl (fun h => ?_) (fun h => ?_) <;> (try simp only [hsA, hsB, hsC, hsD, hsE, List.all_cons, List.all_nil, ne_eq, reduceCtorEq] at h)) | ((with_reducible first | refine awp_skip ?_ | refine awp_ret ?_); simp only [nxA, nxB]) | (with_reducible refine awp_block ?_) | ((with_reducible refine awp_exit ?_); simp only [nxA, ne_eq, not_false_eq_true, Nat.reduceEqDiff, reduceCtorEq]; try ((first | refine hK _ ?_ | (clear hK K; first | refine hK _ ?_ | (clear hK K; first | refine hK _ ?_ | (clear hK K; refine hK _ ?_)))); clear hK K)) | (with_reducible first | apply And.intro | exact True.intro) | ((with_reducible first | show List.all _ _ = true | show lendOk _ _ = true); rfl) | omega | ((with_reducible first | show ¬ _ | show _ → _); intro h; first | contradiction | cases h; done | skip)
    all_goals (try (first | refine fin_keep ?_ | refine finm_keep ?_; repeat clear hK))
    refine ⟨(k, L ++ [(belowX b (2 ^ m.toNat) s, belowX b 4 (belowS b (2 ^ m.toNat) s))], belowS b 4 (belowS b (2 ^ m.toNat) s)), ⟨by show (L ++ [_]).length + k ≤ 6; rw [List.length_append, List.length_singleton]; omega, hd'⟩, Nat.lt_succ_self k, ?_⟩
    exact ⟨[0, 3], rfl, rfl, by simp [-List.getD_eq_getElem?_getD, -List.length_take, List.getD_cons_zero, List.getD_cons_succ, leFr, ASt.at, keepFr, updAll, upd_zero, upd_succ, AV.rnb, AV.rnb0, List.map_append, List.map_cons, List.map_nil, blkC], by simp [-List.getD_eq_getElem?_getD, List.getD_cons_zero, List.getD_cons_succ, ASt.at, AO.rnb, AV.rnb0, upd_k0, upd_k1, upd_k2, upd_k3, List.map_append, List.map_cons, List.map_nil, blkC], rfl, rfl⟩
  | zero =>
    have hE : dvE b = (L, s) := hd.symm
    by_cases hL : 0 < L.length
    · cases ho : onceX b 8 s with
      | true =>
        have eO : dvO b = true := by unfold dvO; rw [hE, decide_eq_true hL, ho]; rfl
        have eR : dvR b = setSt (pickX b [-1, 32, 9223372036854775807] (belowS b 8 s)) L := by unfold dvR; rw [if_pos eO, hE]
        have hrow := setSt_row (x := pickX b [-1, 32, 9223372036854775807] (belowS b 8 s)) hL
        repeat' first | ((with_reducible show aol _ _ _ _ _); first | (refine aol_guard_f (by rfl) ?_ ?_; (focus (simp only [go_sem]; done))) | (refine aol_guard_un (by rfl) ?_ ?_; (focus (simp only [go_sem]; done)))) | ((with_reducible refine hK _ ?_); clear hK K; try simp only [nxA, nxB]) | (with_reducible refine awp_seq fun K hK => ?_) | ((first | ((with_reducible show aol _ _ _ _ _); try first | (refine aol_guard_t (by rfl) ?_ ?_; (focus (simp only [go_sem]; done))) | (refine aol_guard_b (by rfl) (by rfl) (fun h => ?_) (fun h => ?_) <;> (try simp only [hsA, hsB, hsC, hsD, hsE, List.all_cons, List.all_nil, ne_eq, reduceCtorEq] at h))) | ((with_reducible show Awp _ _ (Code.region _ _ _) _ _); first | refine awp_regK (by repeat constructor) (fun K hK => ?_) | (refine awp_drwK (by kernel_rfl) (by repeat constructor) (fun K hK => ?_)))) <;> simp (config := { maxSteps := 2000000 }) (disch := omega) only [go_sem, ↓reduceIte, Nat.reduceEqDiff, Nat.reduceAdd, Nat.reduceLT, Nat.reduceLeDiff, Nat.reduceSub, tBel, tOnc, tPkI, pr_eta, hll, ho]) | ((with_reducible show Awp _ _ (Code.cond _ _ _) _ _); refine awp_cond rfl (fun h => ?_) (fun h => ?_) <;> (try simp only [hsA, hsB, hsC, hsD, hsE, List.all_cons, List.all_nil, ne_eq, reduceCtorEq] at h)) | ((with_reducible first | refine awp_skip ?_ | refine awp_ret ?_); simp only [nxA, nxB]) | (with_reducible refine awp_block ?_) | ((with_reducible refine awp_exit ?_); simp only [nxA, ne_eq, not_false_eq_true, Nat.reduceEqDiff, reduceCtorEq]; try ((first | refine hK _ ?_ | (clear hK K; first | refine hK _ ?_ | (clear hK K; first | refine hK _ ?_ | (clear hK K; refine hK _ ?_)))); clear hK K)) | (with_reducible first | apply And.intro | exact True.intro) | ((with_reducible first | show List.all _ _ = true | show lendOk _ _ = true); rfl) | omega | ((with_reducible first | show ¬ _ | show _ → _); intro h; first | contradiction | cases h; done | skip)
        all_goals (try (first | refine fin_keep ?_ | refine finm_keep ?_; repeat clear hK))
        rw [eR, ← hrow]; exact fin_t2 [1] rfl rfl rfl
      | false =>
        have eO : ¬ dvO b = true := by unfold dvO; rw [hE, ho, Bool.and_false]; decide
        have eR : dvR b = L := by unfold dvR; rw [if_neg eO, hE]
        repeat' first | ((with_reducible show aol _ _ _ _ _); first | (refine aol_guard_f (by rfl) ?_ ?_; (focus (simp only [go_sem]; done))) | (refine aol_guard_un (by rfl) ?_ ?_; (focus (simp only [go_sem]; done)))) | ((with_reducible refine hK _ ?_); clear hK K; try simp only [nxA, nxB]) | (with_reducible refine awp_seq fun K hK => ?_) | ((first | ((with_reducible show aol _ _ _ _ _); try first | (refine aol_guard_t (by rfl) ?_ ?_; (focus (simp only [go_sem]; done))) | (refine aol_guard_b (by rfl) (by rfl) (fun h => ?_) (fun h => ?_) <;> (try simp only [hsA, hsB, hsC, hsD, hsE, List.all_cons, List.all_nil, ne_eq, reduceCtorEq] at h))) | ((with_reducible show Awp _ _ (Code.region _ _ _) _ _); first | refine awp_regK (by repeat constructor) (fun K hK => ?_) | (refine awp_drwK (by kernel_rfl) (by repeat constructor) (fun K hK => ?_)))) <;> simp (config := { maxSteps := 2000000 }) (disch := omega) only [go_sem, ↓reduceIte, Nat.reduceEqDiff, Nat.reduceAdd, Nat.reduceLT, Nat.reduceLeDiff, Nat.reduceSub, tBel, tOnc, tPkI, pr_eta, hll, ho]) | ((with_reducible show Awp _ _ (Code.cond _ _ _) _ _); refine awp_cond rfl (fun h => ?_) (fun h => ?_) <;> (try simp only [hsA, hsB, hsC, hsD, hsE, List.all_cons, List.all_nil, ne_eq, reduceCtorEq] at h)) | ((with_reducible first | refine awp_skip ?_ | refine awp_ret ?_); simp only [nxA, nxB]) | (with_reducible refine awp_block ?_) | ((with_reducible refine awp_exit ?_); simp only [nxA, ne_eq, not_false_eq_true, Nat.reduceEqDiff, reduceCtorEq]; try ((first | refine hK _ ?_ | (clear hK K; first | refine hK _ ?_ | (clear hK K; first | refine hK _ ?_ | (clear hK K; refine hK _ ?_)))); clear hK K)) | (with_reducible first | apply And.intro | exact True.intro) | ((with_reducible first | show List.all _ _ = true | show lendOk _ _ = true); rfl) | omega | ((with_reducible first | show ¬ _ | show _ → _); intro h; first | contradiction | cases h; done | skip)
        all_goals (try (first | refine fin_keep ?_ | refine finm_keep ?_; repeat clear hK))
        rw [eR]; exact fin_t2 [1] rfl rfl rfl
    · have eO : ¬ dvO b = true := by unfold dvO; rw [hE, decide_eq_false hL, Bool.false_and]; decide
      have eR : dvR b = L := by unfold dvR; rw [if_neg eO, hE]
      repeat' first | ((with_reducible show aol _ _ _ _ _); first | (refine aol_guard_f (by rfl) ?_ ?_; (focus (simp only [go_sem]; done))) | (refine aol_guard_un (by rfl) ?_ ?_; (focus (simp only [go_sem]; done)))) | ((with_reducible refine hK _ ?_); clear hK K; try simp only [nxA, nxB]) | (with_reducible refine awp_seq fun K hK => ?_) | ((first | ((with_reducible show aol _ _ _ _ _); try first | (refine aol_guard_t (by rfl) ?_ ?_; (focus (simp only [go_sem]; done))) | (refine aol_guard_b (by rfl) (by rfl) (fun h => ?_) (fun h => ?_) <;> (try simp only [hsA, hsB, hsC, hsD, hsE, List.all_cons, List.all_nil, ne_eq, reduceCtorEq] at h))) | ((with_reducible show Awp _ _ (Code.region _ _ _) _ _); first | refine awp_regK (by repeat constructor) (fun K hK => ?_) | (refine awp_drwK (by kernel_rfl) (by repeat constructor) (fun K hK => ?_)))) <;> simp (config := { maxSteps := 2000000 }) (disch := omega) only [go_sem, ↓reduceIte, Nat.reduceEqDiff, Nat.reduceAdd, Nat.reduceLT, Nat.reduceLeDiff, Nat.reduceSub, tBel, tOnc, tPkI, pr_eta, hll]) | ((with_reducible show Awp _ _ (Code.cond _ _ _) _ _); refine awp_cond rfl (fun h => ?_) (fun h => ?_) <;> (try simp only [hsA, hsB, hsC, hsD, hsE, List.all_cons, List.all_nil, ne_eq, reduceCtorEq] at h)) | ((with_reducible first | refine awp_skip ?_ | refine awp_ret ?_); simp only [nxA, nxB]) | (with_reducible refine awp_block ?_) | ((with_reducible refine awp_exit ?_); simp only [nxA, ne_eq, not_false_eq_true, Nat.reduceEqDiff, reduceCtorEq]; try ((first | refine hK _ ?_ | (clear hK K; first | refine hK _ ?_ | (clear hK K; first | refine hK _ ?_ | (clear hK K; refine hK _ ?_)))); clear hK K)) | (with_reducible first | apply And.intro | exact True.intro) | ((with_reducible first | show List.all _ _ = true | show lendOk _ _ = true); rfl) | omega | ((with_reducible first | show ¬ _ | show _ → _); intro h; first | contradiction | cases h; done | skip)
      all_goals (try (first | refine fin_keep ?_ | refine finm_keep ?_; repeat clear hK))
      rw [eR]; exact fin_t2 [1] rfl rfl rfl

def lsD (b : List Int) : Nat → List Int → Int → Int → Nat × Int → List Int × (Nat × Int)
  | 0, L, _, _, s => (L, s)
  | k + 1, L, x, d, s => lsD b k (L ++ [x]) (RowKit.wrap64 (x + RowKit.wrap64 (d - belowX b 3 s))) (RowKit.wrap64 (d - belowX b 3 s)) (belowS b 3 s)
def lsK (b : List Int) : Int := belowX b 7 (belowS b 3 (newV b))
def lsE (b : List Int) : List Int × (Nat × Int) := lsD b (lsK b).toNat [] (belowX b 3 (newV b)) 3 (belowS b 7 (belowS b 3 (newV b)))
def lsO (b : List Int) : Bool := decide (0 < (lsE b).1.length) && onceX b 6 (lsE b).2
def lsL (b : List Int) : List Int := if lsO b = true then (lsE b).1.set 0 (pickX b [9, -9, 1001, -9223372036854775808] (belowS b 6 (lsE b).2)) else (lsE b).1
theorem lsD_len (b : List Int) : ∀ (k : Nat) (L : List Int) (x d : Int) (s : Nat × Int), (lsD b k L x d s).1.length = L.length + k
  | 0, _, _, _, _ => rfl
  | k + 1, L, x, d, s => by
    have := lsD_len b k (L ++ [x]) (RowKit.wrap64 (x + RowKit.wrap64 (d - belowX b 3 s))) (RowKit.wrap64 (d - belowX b 3 s)) (belowS b 3 s)
    rw [List.length_append, List.length_singleton] at this
    show (lsD b k _ _ _ _).1.length = _; omega
theorem lsL_len (b : List Int) : (lsL b).length ≤ 7 := by
  have h1 := lsD_len b (lsK b).toNat [] (belowX b 3 (newV b)) 3 (belowS b 7 (belowS b 3 (newV b)))
  have h2 := belowX_bd b (n := 7) (by omega) (belowS b 3 (newV b))
  have h3 : lsK b < 7 := h2.2
  have h4 : (lsE b).1.length ≤ 7 := by show (lsD b _ _ _ _ _).1.length ≤ 7; simp only [List.length_nil] at h1; omega
  unfold lsL; split
  · rw [List.length_set]; exact h4
  · exact h4
def tDrLs : Tab
  | [.sl .u8 b] => some (b.length ≤ 1048576, .own 0, [.row .i64 3 (lsL b)])
  | _ => none
theorem l4L_ok : Fits Try.prog 179 tDrLs := by
  refine ⟨callable_of Try.func179 (by kernel_rfl) rfl, ?_⟩
  intro args p out Ho h hp
  unfold tDrLs at h
  split at h <;> cases h
  rename_i b
  refine ⟨acall_by (env_ok2 (env := []) (envM := [(131, tNew), (159, tBel), (165, tOnc), (176, tPkI)]) (by simp) (by simp only [List.forall_mem_cons, List.not_mem_nil, false_implies, implies_true, and_true]; exact ⟨new_ok, bel_ok, onc_ok, pkI_ok⟩)) Try.func179 rfl rfl rfl rfl rfl ?_, rfl, rfl⟩
  intro hlen c hc hX
  simp only [lensOk, AV.lenOk, true_and, and_true] at hlen
  simp only [Try.ntmps179, Try.results179, List.length_cons, List.length_nil, List.replicate, List.cons_append, List.nil_append, Nat.reduceAdd, Nat.reduceSub]
  have fK : belowX b 7 (belowS b 3 (newV b)) = lsK b := rfl
  have hk : 0 ≤ lsK b ∧ lsK b < 7 := belowX_bd b (by omega) _
  obtain ⟨k0, hk0⟩ := Int.eq_ofNat_of_zero_le hk.1
  repeat' first | ((with_reducible show aol _ _ _ _ _); first | (refine aol_guard_f (by rfl) ?_ ?_; (focus (simp only [go_sem]; done))) | (refine aol_guard_un (by rfl) ?_ ?_; (focus (simp only [go_sem]; done)))) | ((with_reducible refine hK _ ?_); clear hK K; try simp only [nxA, nxB]) | (with_reducible refine awp_seq fun K hK => ?_) | ((first | ((with_reducible show aol _ _ _ _ _); try first | (refine aol_guard_t (by rfl) ?_ ?_; (focus (simp only [go_sem]; done))) | (refine aol_guard_b (by rfl) (by rfl) (fun h => ?_) (fun h => ?_) <;> (try simp only [hsA, hsB, hsC, hsD, hsE, List.all_cons, List.all_nil, ne_eq, reduceCtorEq] at h))) | ((with_reducible show Awp _ _ (Code.region _ _ _) _ _); first | refine awp_regK (by repeat constructor) (fun K hK => ?_) | (refine awp_drwK (by kernel_rfl) (by repeat constructor) (fun K hK => ?_)))) <;> simp (config := { maxSteps := 2000000 }) (disch := omega) only [go_sem, ↓reduceIte, Nat.reduceEqDiff, Nat.reduceAdd, Nat.reduceLT, Nat.reduceLeDiff, Nat.reduceSub, tNew, tBel, pr_eta, fK]) | ((with_reducible show Awp _ _ (Code.cond _ _ _) _ _); refine awp_cond rfl (fun h => ?_) (fun h => ?_) <;> (try simp only [hsA, hsB, hsC, hsD, hsE, List.all_cons, List.all_nil, ne_eq, reduceCtorEq] at h)) | ((with_reducible first | refine awp_skip ?_ | refine awp_ret ?_); simp only [nxA, nxB]) | (with_reducible refine awp_block ?_) | ((with_reducible refine awp_exit ?_); simp only [nxA, ne_eq, not_false_eq_true, Nat.reduceEqDiff, reduceCtorEq]; try ((first | refine hK _ ?_ | (clear hK K; first | refine hK _ ?_ | (clear hK K; first | refine hK _ ?_ | (clear hK K; refine hK _ ?_)))); clear hK K)) | (with_reducible first | apply And.intro | exact True.intro) | ((with_reducible first | show List.all _ _ = true | show lendOk _ _ = true); rfl) | omega | ((with_reducible first | show ¬ _ | show _ → _); intro h; first | contradiction | cases h; done | skip)
  all_goals (try (first | refine fin_keep ?_ | refine finm_keep ?_; repeat clear hK))
  refine awp_forR 0 hX (fun st (x : Nat × List Int × (Int × Int) × (Nat × Int)) => st.at [3] [(4, .own 1), (5, .i x.2.2.1.1), (6, .i x.2.2.1.2), (7, .i x.1)] [.box 135 [.sl .u8 b, .i (x.2.2.2.1 : Int), .i x.2.2.2.2], .row .i64 3 x.2.1])
    (fun x => x.2.1.length + x.1 ≤ 7 ∧ lsD b x.1 x.2.1 x.2.2.1.1 x.2.2.1.2 x.2.2.2 = lsE b) (fun x => x.1) (k0, [], (belowX b 3 (newV b), 3), belowS b 7 (belowS b 3 (newV b))) ⟨by simp only [List.length_nil]; omega, ?_⟩ ?_ ?_
  · show lsD b k0 [] _ _ _ = lsD b (lsK b).toNat [] _ _ _
    rw [hk0, Int.toNat_natCast]
  · exact ⟨[0, 1], rfl, rfl, by simp [-List.getD_eq_getElem?_getD, -List.length_take, List.getD_cons_zero, List.getD_cons_succ, leFr, ASt.at, keepFr, updAll, upd_zero, upd_succ, AV.rnb, AV.rnb0, hk0], by simp [-List.getD_eq_getElem?_getD, List.getD_cons_zero, List.getD_cons_succ, ASt.at, AO.rnb, AV.rnb0, upd_k0, upd_k1, upd_k2, upd_k3, hk0], rfl, rfl⟩
  rintro ⟨k, L, ⟨x, d⟩, s⟩ ⟨hlen2, hd⟩
  simp only [ASt.at, keepFr, updAll, upd_zero, upd_succ, List.mem_cons, List.not_mem_nil, Nat.reduceEqDiff, Nat.reduceAdd, or_false, or_true, false_or, true_or, ↓reduceIte, eq_self]
  have hl2 : L.length + k ≤ 7 := hlen2
  cases k with
  | succ k =>
    have hd' : lsD b k (L ++ [x]) (RowKit.wrap64 (x + RowKit.wrap64 (d - belowX b 3 s))) (RowKit.wrap64 (d - belowX b 3 s)) (belowS b 3 s) = lsE b := hd
    repeat' first | ((with_reducible show aol _ _ _ _ _); first | (refine aol_guard_f (by rfl) ?_ ?_; (focus (simp only [go_sem]; done))) | (refine aol_guard_un (by rfl) ?_ ?_; (focus (simp only [go_sem]; done)))) | ((with_reducible refine hK _ ?_); clear hK K; try simp only [nxA, nxB]) | (with_reducible refine awp_seq fun K hK => ?_) | ((first | ((with_reducible show aol _ _ _ _ _); try first | (refine aol_guard_t (by rfl) ?_ ?_; (focus (simp only [go_sem]; done))) | (refine aol_guard_b (by rfl) (by rfl) (fun h => ?_) (fun h => ?_) <;> (try simp only [hsA, hsB, hsC, hsD, hsE, List.all_cons, List.all_nil, ne_eq, reduceCtorEq] at h))) | ((with_reducible show Awp _ _ (Code.region _ _ _) _ _); first | refine awp_regK (by repeat constructor) (fun K hK => ?_) | (refine awp_drwK (by kernel_rfl) (by repeat constructor) (fun K hK => ?_)))) <;> simp (config := { maxSteps := 2000000 }) (disch := omega) only [go_sem, ↓reduceIte, Nat.reduceEqDiff, Nat.reduceAdd, Nat.reduceLT, Nat.reduceLeDiff, Nat.reduceSub, tBel, pr_eta]) | ((with_reducible show Awp _ _ (Code.cond _ _ _) _ _); refine awp_cond rfl (fun h => ?_) (fun h => ?_) <;> (try simp only [hsA, hsB, hsC, hsD, hsE, List.all_cons, List.all_nil, ne_eq, reduceCtorEq] at h)) | ((with_reducible first | refine awp_skip ?_ | refine awp_ret ?_); simp only [nxA, nxB]) | (with_reducible refine awp_block ?_) | ((with_reducible refine awp_exit ?_); simp only [nxA, ne_eq, not_false_eq_true, Nat.reduceEqDiff, reduceCtorEq]; try ((first | refine hK _ ?_ | (clear hK K; first | refine hK _ ?_ | (clear hK K; first | refine hK _ ?_ | (clear hK K; refine hK _ ?_)))); clear hK K)) | (with_reducible first | apply And.intro | exact True.intro) | ((with_reducible first | show List.all _ _ = true | show lendOk _ _ = true); rfl) | omega | ((with_reducible first | show ¬ _ | show _ → _); intro h; first | contradiction | cases h; done | skip)
    all_goals (try (first | refine fin_keep ?_ | refine finm_keep ?_; repeat clear hK))
    refine ⟨(k, L ++ [x], (RowKit.wrap64 (x + RowKit.wrap64 (d - belowX b 3 s)), RowKit.wrap64 (d - belowX b 3 s)), belowS b 3 s), ⟨by show (L ++ [_]).length + k ≤ 7; rw [List.length_append, List.length_singleton]; omega, hd'⟩, Nat.lt_succ_self k, ?_⟩
    exact ⟨[0, 3], rfl, rfl, by simp [-List.getD_eq_getElem?_getD, -List.length_take, List.getD_cons_zero, List.getD_cons_succ, leFr, ASt.at, keepFr, updAll, upd_zero, upd_succ, AV.rnb, AV.rnb0], by simp [-List.getD_eq_getElem?_getD, List.getD_cons_zero, List.getD_cons_succ, ASt.at, AO.rnb, AV.rnb0, upd_k0, upd_k1, upd_k2, upd_k3], rfl, rfl⟩
  | zero =>
    have hE : lsE b = (L, s) := hd.symm
    by_cases hL : 0 < L.length
    · cases ho : onceX b 6 s with
      | true =>
        have eO : lsO b = true := by unfold lsO; rw [hE, decide_eq_true hL, ho]; rfl
        have eR : lsL b = L.set 0 (pickX b [9, -9, 1001, -9223372036854775808] (belowS b 6 s)) := by unfold lsL; rw [if_pos eO, hE]
        repeat' first | ((with_reducible show aol _ _ _ _ _); first | (refine aol_guard_f (by rfl) ?_ ?_; (focus (simp only [go_sem]; done))) | (refine aol_guard_un (by rfl) ?_ ?_; (focus (simp only [go_sem]; done)))) | ((with_reducible refine hK _ ?_); clear hK K; try simp only [nxA, nxB]) | (with_reducible refine awp_seq fun K hK => ?_) | ((first | ((with_reducible show aol _ _ _ _ _); try first | (refine aol_guard_t (by rfl) ?_ ?_; (focus (simp only [go_sem]; done))) | (refine aol_guard_b (by rfl) (by rfl) (fun h => ?_) (fun h => ?_) <;> (try simp only [hsA, hsB, hsC, hsD, hsE, List.all_cons, List.all_nil, ne_eq, reduceCtorEq] at h))) | ((with_reducible show Awp _ _ (Code.region _ _ _) _ _); first | refine awp_regK (by repeat constructor) (fun K hK => ?_) | (refine awp_drwK (by kernel_rfl) (by repeat constructor) (fun K hK => ?_)))) <;> simp (config := { maxSteps := 2000000 }) (disch := omega) only [go_sem, ↓reduceIte, Nat.reduceEqDiff, Nat.reduceAdd, Nat.reduceLT, Nat.reduceLeDiff, Nat.reduceSub, tBel, tOnc, tPkI, pr_eta, ho]) | ((with_reducible show Awp _ _ (Code.cond _ _ _) _ _); refine awp_cond rfl (fun h => ?_) (fun h => ?_) <;> (try simp only [hsA, hsB, hsC, hsD, hsE, List.all_cons, List.all_nil, ne_eq, reduceCtorEq] at h)) | ((with_reducible first | refine awp_skip ?_ | refine awp_ret ?_); simp only [nxA, nxB]) | (with_reducible refine awp_block ?_) | ((with_reducible refine awp_exit ?_); simp only [nxA, ne_eq, not_false_eq_true, Nat.reduceEqDiff, reduceCtorEq]; try ((first | refine hK _ ?_ | (clear hK K; first | refine hK _ ?_ | (clear hK K; first | refine hK _ ?_ | (clear hK K; refine hK _ ?_)))); clear hK K)) | (with_reducible first | apply And.intro | exact True.intro) | ((with_reducible first | show List.all _ _ = true | show lendOk _ _ = true); rfl) | omega | ((with_reducible first | show ¬ _ | show _ → _); intro h; first | contradiction | cases h; done | skip)
        all_goals (try (first | refine fin_keep ?_ | refine finm_keep ?_; repeat clear hK))
        rw [eR]; exact fin_t1 [1] rfl rfl rfl
      | false =>
        have eO : ¬ lsO b = true := by unfold lsO; rw [hE, ho, Bool.and_false]; decide
        have eR : lsL b = L := by unfold lsL; rw [if_neg eO, hE]
        repeat' first | ((with_reducible show aol _ _ _ _ _); first | (refine aol_guard_f (by rfl) ?_ ?_; (focus (simp only [go_sem]; done))) | (refine aol_guard_un (by rfl) ?_ ?_; (focus (simp only [go_sem]; done)))) | ((with_reducible refine hK _ ?_); clear hK K; try simp only [nxA, nxB]) | (with_reducible refine awp_seq fun K hK => ?_) | ((first | ((with_reducible show aol _ _ _ _ _); try first | (refine aol_guard_t (by rfl) ?_ ?_; (focus (simp only [go_sem]; done))) | (refine aol_guard_b (by rfl) (by rfl) (fun h => ?_) (fun h => ?_) <;> (try simp only [hsA, hsB, hsC, hsD, hsE, List.all_cons, List.all_nil, ne_eq, reduceCtorEq] at h))) | ((with_reducible show Awp _ _ (Code.region _ _ _) _ _); first | refine awp_regK (by repeat constructor) (fun K hK => ?_) | (refine awp_drwK (by kernel_rfl) (by repeat constructor) (fun K hK => ?_)))) <;> simp (config := { maxSteps := 2000000 }) (disch := omega) only [go_sem, ↓reduceIte, Nat.reduceEqDiff, Nat.reduceAdd, Nat.reduceLT, Nat.reduceLeDiff, Nat.reduceSub, tBel, tOnc, tPkI, pr_eta, ho]) | ((with_reducible show Awp _ _ (Code.cond _ _ _) _ _); refine awp_cond rfl (fun h => ?_) (fun h => ?_) <;> (try simp only [hsA, hsB, hsC, hsD, hsE, List.all_cons, List.all_nil, ne_eq, reduceCtorEq] at h)) | ((with_reducible first | refine awp_skip ?_ | refine awp_ret ?_); simp only [nxA, nxB]) | (with_reducible refine awp_block ?_) | ((with_reducible refine awp_exit ?_); simp only [nxA, ne_eq, not_false_eq_true, Nat.reduceEqDiff, reduceCtorEq]; try ((first | refine hK _ ?_ | (clear hK K; first | refine hK _ ?_ | (clear hK K; first | refine hK _ ?_ | (clear hK K; refine hK _ ?_)))); clear hK K)) | (with_reducible first | apply And.intro | exact True.intro) | ((with_reducible first | show List.all _ _ = true | show lendOk _ _ = true); rfl) | omega | ((with_reducible first | show ¬ _ | show _ → _); intro h; first | contradiction | cases h; done | skip)
        all_goals (try (first | refine fin_keep ?_ | refine finm_keep ?_; repeat clear hK))
        rw [eR]; exact fin_t1 [1] rfl rfl rfl
    · have eO : ¬ lsO b = true := by unfold lsO; rw [hE, decide_eq_false hL, Bool.false_and]; decide
      have eR : lsL b = L := by unfold lsL; rw [if_neg eO, hE]
      repeat' first | ((with_reducible show aol _ _ _ _ _); first | (refine aol_guard_f (by rfl) ?_ ?_; (focus (simp only [go_sem]; done))) | (refine aol_guard_un (by rfl) ?_ ?_; (focus (simp only [go_sem]; done)))) | ((with_reducible refine hK _ ?_); clear hK K; try simp only [nxA, nxB]) | (with_reducible refine awp_seq fun K hK => ?_) | ((first | ((with_reducible show aol _ _ _ _ _); try first | (refine aol_guard_t (by rfl) ?_ ?_; (focus (simp only [go_sem]; done))) | (refine aol_guard_b (by rfl) (by rfl) (fun h => ?_) (fun h => ?_) <;> (try simp only [hsA, hsB, hsC, hsD, hsE, List.all_cons, List.all_nil, ne_eq, reduceCtorEq] at h))) | ((with_reducible show Awp _ _ (Code.region _ _ _) _ _); first | refine awp_regK (by repeat constructor) (fun K hK => ?_) | (refine awp_drwK (by kernel_rfl) (by repeat constructor) (fun K hK => ?_)))) <;> simp (config := { maxSteps := 2000000 }) (disch := omega) only [go_sem, ↓reduceIte, Nat.reduceEqDiff, Nat.reduceAdd, Nat.reduceLT, Nat.reduceLeDiff, Nat.reduceSub, tBel, tOnc, tPkI, pr_eta]) | ((with_reducible show Awp _ _ (Code.cond _ _ _) _ _); refine awp_cond rfl (fun h => ?_) (fun h => ?_) <;> (try simp only [hsA, hsB, hsC, hsD, hsE, List.all_cons, List.all_nil, ne_eq, reduceCtorEq] at h)) | ((with_reducible first | refine awp_skip ?_ | refine awp_ret ?_); simp only [nxA, nxB]) | (with_reducible refine awp_block ?_) | ((with_reducible refine awp_exit ?_); simp only [nxA, ne_eq, not_false_eq_true, Nat.reduceEqDiff, reduceCtorEq]; try ((first | refine hK _ ?_ | (clear hK K; first | refine hK _ ?_ | (clear hK K; first | refine hK _ ?_ | (clear hK K; refine hK _ ?_)))); clear hK K)) | (with_reducible first | apply And.intro | exact True.intro) | ((with_reducible first | show List.all _ _ = true | show lendOk _ _ = true); rfl) | omega | ((with_reducible first | show ¬ _ | show _ → _); intro h; first | contradiction | cases h; done | skip)
      all_goals (try (first | refine fin_keep ?_ | refine finm_keep ?_; repeat clear hK))
      rw [eR]; exact fin_t1 [1] rfl rfl rfl
theorem drSz_ok : Fits Try.prog 75 tDrLs := by
  refine ⟨callable_of Try.func75 (by kernel_rfl) rfl, ?_⟩
  intro args p out Ho h hp
  unfold tDrLs at h
  split at h <;> cases h
  rename_i b
  refine ⟨acall_by (env_ok (env := [(179, tDrLs)]) (by simp only [List.forall_mem_cons, List.not_mem_nil, false_implies, implies_true, and_true]; exact l4L_ok)) Try.func75 rfl rfl rfl rfl rfl ?_, rfl, rfl⟩
  intro hlen c hc hX
  simp only [lensOk, AV.lenOk, true_and, and_true] at hlen
  simp only [Try.ntmps75, Try.results75, List.length_cons, List.length_nil, List.replicate, List.cons_append, List.nil_append, Nat.reduceAdd, Nat.reduceSub]
  have hl := lsL_len b
  repeat' first | ((with_reducible show aol _ _ _ _ _); first | (refine aol_guard_f (by rfl) ?_ ?_; (focus (simp only [go_sem]; done))) | (refine aol_guard_un (by rfl) ?_ ?_; (focus (simp only [go_sem]; done)))) | ((with_reducible refine hK _ ?_); clear hK K; try simp only [nxA, nxB]) | (with_reducible refine awp_seq fun K hK => ?_) | ((first | ((with_reducible show aol _ _ _ _ _); try first | (refine aol_guard_t (by rfl) ?_ ?_; (focus (simp only [go_sem]; done))) | (refine aol_guard_b (by rfl) (by rfl) (fun h => ?_) (fun h => ?_) <;> (try simp only [hsA, hsB, hsC, hsD, hsE, List.all_cons, List.all_nil, ne_eq, reduceCtorEq] at h))) | ((with_reducible show Awp _ _ (Code.region _ _ _) _ _); first | refine awp_regK (by repeat constructor) (fun K hK => ?_) | (refine awp_drwK (by kernel_rfl) (by repeat constructor) (fun K hK => ?_)))) <;> simp (config := { maxSteps := 2000000 }) (disch := omega) only [go_sem, ↓reduceIte, Nat.reduceEqDiff, Nat.reduceAdd, Nat.reduceLT, Nat.reduceLeDiff, Nat.reduceSub, tDrLs]) | ((with_reducible show Awp _ _ (Code.cond _ _ _) _ _); refine awp_cond rfl (fun h => ?_) (fun h => ?_) <;> (try simp only [hsA, hsB, hsC, hsD, hsE, List.all_cons, List.all_nil, ne_eq, reduceCtorEq] at h)) | ((with_reducible first | refine awp_skip ?_ | refine awp_ret ?_); simp only [nxA, nxB]) | (with_reducible refine awp_block ?_) | ((with_reducible refine awp_exit ?_); simp only [nxA, ne_eq, not_false_eq_true, Nat.reduceEqDiff, reduceCtorEq]; try ((first | refine hK _ ?_ | (clear hK K; first | refine hK _ ?_ | (clear hK K; first | refine hK _ ?_ | (clear hK K; refine hK _ ?_)))); clear hK K)) | (with_reducible first | apply And.intro | exact True.intro) | ((with_reducible first | show List.all _ _ = true | show lendOk _ _ = true); rfl) | omega | ((with_reducible first | show ¬ _ | show _ → _); intro h; first | contradiction | cases h; done | skip)
  all_goals (try (first | refine fin_keep ?_ | refine finm_keep ?_; repeat clear hK))
  exact fin_t1 [0] rfl rfl rfl

def dnD (b : List Int) (n o : Int) : Nat → List Int → Nat × Int → List Int × (Nat × Int)
  | 0, L, s => (L, s)
  | k + 1, L, s => dnD b n o k (L ++ [belowX b n s + o]) (belowS b n s)
theorem dnD_len (b : List Int) (n o : Int) : ∀ (k : Nat) (L : List Int) (s : Nat × Int), (dnD b n o k L s).1.length = L.length + k
  | 0, _, _ => rfl
  | k + 1, L, s => by
    have := dnD_len b n o k (L ++ [belowX b n s + o]) (belowS b n s)
    rw [List.length_append, List.length_singleton] at this
    show (dnD b n o k _ _).1.length = _; omega
def dpK (b : List Int) : Int := belowX b 4 (newV b)
def dpM (b : List Int) : List Int × (Nat × Int) := dnD b 3 0 (dpK b).toNat [] (belowS b 4 (newV b))
def dpX (b : List Int) : Int := if (1 : Int) < ((dpM b).1.length : Int) then ((dpM b).1.length : Int) else 1
def dpJ (b : List Int) : Int := belowX b 6 (dpM b).2
def dpE (b : List Int) : List Int × (Nat × Int) := dnD b (dpX b) 0 (dpJ b).toNat [] (belowS b 6 (dpM b).2)
def dpO (b : List Int) : Bool := decide (0 < (dpE b).1.length) && onceX b 8 (dpE b).2
def dpG (b : List Int) : List Int := if dpO b = true then (dpE b).1.set 0 (pickX b [-1, 5, 9223372036854775807] (belowS b 8 (dpE b).2)) else (dpE b).1
def tDrPn : Tab
  | [.sl .u8 b] => some (b.length ≤ 1048576, .tu [.own 0, .own 1], [.row .i64 3 (dpG b), .row .i64 3 (dpM b).1])
  | _ => none
theorem drPn_ok : Fits Try.prog 80 tDrPn := by
  refine ⟨callable_of Try.func80 (by kernel_rfl) rfl, ?_⟩
  intro args p out Ho h hp
  unfold tDrPn at h
  split at h <;> cases h
  rename_i b
  refine ⟨acall_by (env_ok2 (env := []) (envM := [(131, tNew), (159, tBel), (165, tOnc), (176, tPkI)]) (by simp) (by simp only [List.forall_mem_cons, List.not_mem_nil, false_implies, implies_true, and_true]; exact ⟨new_ok, bel_ok, onc_ok, pkI_ok⟩)) Try.func80 rfl rfl rfl rfl rfl ?_, rfl, rfl⟩
  intro hlen c hc hX
  simp only [lensOk, AV.lenOk, true_and, and_true] at hlen
  simp only [Try.ntmps80, Try.results80, List.length_cons, List.length_nil, List.replicate, List.cons_append, List.nil_append, Nat.reduceAdd, Nat.reduceSub]
  have fK : belowX b 4 (newV b) = dpK b := rfl
  have hk : 0 ≤ dpK b ∧ dpK b < 4 := belowX_bd b (by omega) _
  obtain ⟨k0, hk0⟩ := Int.eq_ofNat_of_zero_le hk.1
  repeat' first | ((with_reducible show aol _ _ _ _ _); first | (refine aol_guard_f (by rfl) ?_ ?_; (focus (simp only [go_sem]; done))) | (refine aol_guard_un (by rfl) ?_ ?_; (focus (simp only [go_sem]; done)))) | ((with_reducible refine hK _ ?_); clear hK K; try simp only [nxA, nxB]) | (with_reducible refine awp_seq fun K hK => ?_) | ((first | ((with_reducible show aol _ _ _ _ _); try first | (refine aol_guard_t (by rfl) ?_ ?_; (focus (simp only [go_sem]; done))) | (refine aol_guard_b (by rfl) (by rfl) (fun h => ?_) (fun h => ?_) <;> (try simp only [hsA, hsB, hsC, hsD, hsE, List.all_cons, List.all_nil, ne_eq, reduceCtorEq] at h))) | ((with_reducible show Awp _ _ (Code.region _ _ _) _ _); first | refine awp_regK (by repeat constructor) (fun K hK => ?_) | (refine awp_drwK (by kernel_rfl) (by repeat constructor) (fun K hK => ?_)))) <;> simp (config := { maxSteps := 2000000 }) (disch := omega) only [go_sem, ↓reduceIte, Nat.reduceEqDiff, Nat.reduceAdd, Nat.reduceLT, Nat.reduceLeDiff, Nat.reduceSub, tNew, tBel, pr_eta, fK]) | ((with_reducible show Awp _ _ (Code.cond _ _ _) _ _); refine awp_cond rfl (fun h => ?_) (fun h => ?_) <;> (try simp only [hsA, hsB, hsC, hsD, hsE, List.all_cons, List.all_nil, ne_eq, reduceCtorEq] at h)) | ((with_reducible first | refine awp_skip ?_ | refine awp_ret ?_); simp only [nxA, nxB]) | (with_reducible refine awp_block ?_) | ((with_reducible refine awp_exit ?_); simp only [nxA, ne_eq, not_false_eq_true, Nat.reduceEqDiff, reduceCtorEq]; try ((first | refine hK _ ?_ | (clear hK K; first | refine hK _ ?_ | (clear hK K; first | refine hK _ ?_ | (clear hK K; refine hK _ ?_)))); clear hK K)) | (with_reducible first | apply And.intro | exact True.intro) | ((with_reducible first | show List.all _ _ = true | show lendOk _ _ = true); rfl) | omega | ((with_reducible first | show ¬ _ | show _ → _); intro h; first | contradiction | cases h; done | skip)
  all_goals (try (first | refine fin_keep ?_ | refine finm_keep ?_; repeat clear hK))
  refine awp_forR 0 hX (fun st (x : Nat × List Int × (Nat × Int)) => st.at [4] [(5, .own 1), (6, .i x.1)] [.box 135 [.sl .u8 b, .i (x.2.2.1 : Int), .i x.2.2.2], .row .i64 3 x.2.1])
    (fun x => x.2.1.length + x.1 ≤ 4 ∧ dnD b 3 0 x.1 x.2.1 x.2.2 = dpM b) (fun x => x.1) (k0, [], belowS b 4 (newV b)) ⟨by simp only [List.length_nil]; omega, ?_⟩ ?_ ?_
  · show dnD b 3 0 k0 [] _ = dnD b 3 0 (dpK b).toNat [] _
    rw [hk0, Int.toNat_natCast]
  · exact ⟨[0, 1], rfl, rfl, by simp [-List.getD_eq_getElem?_getD, -List.length_take, List.getD_cons_zero, List.getD_cons_succ, leFr, ASt.at, keepFr, updAll, upd_zero, upd_succ, AV.rnb, AV.rnb0, hk0], by simp [-List.getD_eq_getElem?_getD, List.getD_cons_zero, List.getD_cons_succ, ASt.at, AO.rnb, AV.rnb0, upd_k0, upd_k1, upd_k2, upd_k3, hk0], rfl, rfl⟩
  rintro ⟨k, L, s⟩ ⟨hlen2, hd⟩
  simp only [ASt.at, keepFr, updAll, upd_zero, upd_succ, List.mem_cons, List.not_mem_nil, Nat.reduceEqDiff, Nat.reduceAdd, or_false, or_true, false_or, true_or, ↓reduceIte, eq_self]
  have hl2 : L.length + k ≤ 4 := hlen2
  cases k with
  | succ k =>
    have hd' : dnD b 3 0 k (L ++ [belowX b 3 s]) (belowS b 3 s) = dpM b := by rw [← hd]; show _ = dnD b 3 0 k (L ++ [belowX b 3 s + 0]) (belowS b 3 s); rw [Int.add_zero]
    repeat' first | ((with_reducible show aol _ _ _ _ _); first | (refine aol_guard_f (by rfl) ?_ ?_; (focus (simp only [go_sem]; done))) | (refine aol_guard_un (by rfl) ?_ ?_; (focus (simp only [go_sem]; done)))) | ((with_reducible refine hK _ ?_); clear hK K; try simp only [nxA, nxB]) | (with_reducible refine awp_seq fun K hK => ?_) | ((first | ((with_reducible show aol _ _ _ _ _); try first | (refine aol_guard_t (by rfl) ?_ ?_; (focus (simp only [go_sem]; done))) | (refine aol_guard_b (by rfl) (by rfl) (fun h => ?_) (fun h => ?_) <;> (try simp only [hsA, hsB, hsC, hsD, hsE, List.all_cons, List.all_nil, ne_eq, reduceCtorEq] at h))) | ((with_reducible show Awp _ _ (Code.region _ _ _) _ _); first | refine awp_regK (by repeat constructor) (fun K hK => ?_) | (refine awp_drwK (by kernel_rfl) (by repeat constructor) (fun K hK => ?_)))) <;> simp (config := { maxSteps := 2000000 }) (disch := omega) only [go_sem, ↓reduceIte, Nat.reduceEqDiff, Nat.reduceAdd, Nat.reduceLT, Nat.reduceLeDiff, Nat.reduceSub, tBel, pr_eta]) | ((with_reducible show Awp _ _ (Code.cond _ _ _) _ _); refine awp_cond rfl (fun h => ?_) (fun h => ?_) <;> (try simp only [hsA, hsB, hsC, hsD, hsE, List.all_cons, List.all_nil, ne_eq, reduceCtorEq] at h)) | ((with_reducible first | refine awp_skip ?_ | refine awp_ret ?_); simp only [nxA, nxB]) | (with_reducible refine awp_block ?_) | ((with_reducible refine awp_exit ?_); simp only [nxA, ne_eq, not_false_eq_true, Nat.reduceEqDiff, reduceCtorEq]; try ((first | refine hK _ ?_ | (clear hK K; first | refine hK _ ?_ | (clear hK K; first | refine hK _ ?_ | (clear hK K; refine hK _ ?_)))); clear hK K)) | (with_reducible first | apply And.intro | exact True.intro) | ((with_reducible first | show List.all _ _ = true | show lendOk _ _ = true); rfl) | omega | ((with_reducible first | show ¬ _ | show _ → _); intro h; first | contradiction | cases h; done | skip)
    all_goals (try (first | refine fin_keep ?_ | refine finm_keep ?_; repeat clear hK))
    refine ⟨(k, L ++ [belowX b 3 s], belowS b 3 s), ⟨by show (L ++ [_]).length + k ≤ 4; rw [List.length_append, List.length_singleton]; omega, hd'⟩, Nat.lt_succ_self k, ?_⟩
    exact ⟨[0, 3], rfl, rfl, by simp [-List.getD_eq_getElem?_getD, -List.length_take, List.getD_cons_zero, List.getD_cons_succ, leFr, ASt.at, keepFr, updAll, upd_zero, upd_succ, AV.rnb, AV.rnb0], by simp [-List.getD_eq_getElem?_getD, List.getD_cons_zero, List.getD_cons_succ, ASt.at, AO.rnb, AV.rnb0, upd_k0, upd_k1, upd_k2, upd_k3], rfl, rfl⟩
  | zero =>
    have hM : dpM b = (L, s) := hd.symm
    have fJ : belowX b 6 s = dpJ b := by unfold dpJ; rw [hM]
    have hj : 0 ≤ dpJ b ∧ dpJ b < 6 := belowX_bd b (by omega) _
    obtain ⟨j0, hj0⟩ := Int.eq_ofNat_of_zero_le hj.1
    obtain ⟨x, hx⟩ : ∃ x, dpX b = x := ⟨_, rfl⟩
    have hx' : (if (1 : Int) < (L.length : Int) then (L.length : Int) else 1) = x := by rw [← hx]; unfold dpX; rw [hM]
    have eM1 : (dpM b).1 = L := by rw [hM]
    repeat' first | ((with_reducible show aol _ _ _ _ _); first | (refine aol_guard_f (by rfl) ?_ ?_; (focus (simp only [go_sem]; done))) | (refine aol_guard_un (by rfl) ?_ ?_; (focus (simp only [go_sem]; done)))) | ((with_reducible refine hK _ ?_); clear hK K; try simp only [nxA, nxB]) | (with_reducible refine awp_seq fun K hK => ?_) | ((first | ((with_reducible show aol _ _ _ _ _); try first | (refine aol_guard_t (by rfl) ?_ ?_; (focus (simp only [go_sem]; done))) | (refine aol_guard_b (by rfl) (by rfl) (fun h => ?_) (fun h => ?_) <;> (try simp only [hsA, hsB, hsC, hsD, hsE, List.all_cons, List.all_nil, ne_eq, reduceCtorEq] at h))) | ((with_reducible show Awp _ _ (Code.region _ _ _) _ _); first | refine awp_regK (by repeat constructor) (fun K hK => ?_) | (refine awp_drwK (by kernel_rfl) (by repeat constructor) (fun K hK => ?_)))) <;> simp (config := { maxSteps := 2000000 }) (disch := omega) only [go_sem, ↓reduceIte, Nat.reduceEqDiff, Nat.reduceAdd, Nat.reduceLT, Nat.reduceLeDiff, Nat.reduceSub, tBel, pr_eta, fJ]) | ((with_reducible show Awp _ _ (Code.cond _ _ _) _ _); refine awp_cond rfl (fun h => ?_) (fun h => ?_) <;> (try simp only [hsA, hsB, hsC, hsD, hsE, List.all_cons, List.all_nil, ne_eq, reduceCtorEq] at h)) | ((with_reducible first | refine awp_skip ?_ | refine awp_ret ?_); simp only [nxA, nxB]) | (with_reducible refine awp_block ?_) | ((with_reducible refine awp_exit ?_); simp only [nxA, ne_eq, not_false_eq_true, Nat.reduceEqDiff, reduceCtorEq]; try ((first | refine hK _ ?_ | (clear hK K; first | refine hK _ ?_ | (clear hK K; first | refine hK _ ?_ | (clear hK K; refine hK _ ?_)))); clear hK K)) | (with_reducible first | apply And.intro | exact True.intro) | ((with_reducible first | show List.all _ _ = true | show lendOk _ _ = true); rfl) | omega | ((with_reducible first | show ¬ _ | show _ → _); intro h; first | contradiction | cases h; done | skip)
    all_goals (try (first | refine fin_keep ?_ | refine finm_keep ?_; repeat clear hK))
    refine awp_forR 0 hX (fun st (x : Nat × List Int × (Nat × Int)) => st.at [4, 5] [(7, .own 2), (8, .i x.1)] [.box 135 [.sl .u8 b, .i (x.2.2.1 : Int), .i x.2.2.2], .row .i64 3 L, .row .i64 3 x.2.1])
      (fun y => y.2.1.length + y.1 ≤ 6 ∧ dnD b x 0 y.1 y.2.1 y.2.2 = dpE b) (fun x => x.1) (j0, [], belowS b 6 s) ⟨by simp only [List.length_nil]; omega, ?_⟩ ?_ ?_
    · show dnD b x 0 j0 [] _ = dnD b (dpX b) 0 (dpJ b).toNat [] _
      rw [hj0, Int.toNat_natCast, hx, hM]
    · exact ⟨[0, 1, 2], rfl, rfl, by simp [-List.getD_eq_getElem?_getD, -List.length_take, List.getD_cons_zero, List.getD_cons_succ, leFr, ASt.at, keepFr, updAll, upd_zero, upd_succ, AV.rnb, AV.rnb0, hj0], by simp [-List.getD_eq_getElem?_getD, List.getD_cons_zero, List.getD_cons_succ, ASt.at, AO.rnb, AV.rnb0, upd_k0, upd_k1, upd_k2, upd_k3, hj0], rfl, rfl⟩
    rintro ⟨k, G, t⟩ ⟨hlen3, hd2⟩
    simp only [ASt.at, keepFr, updAll, upd_zero, upd_succ, List.mem_cons, List.not_mem_nil, Nat.reduceEqDiff, Nat.reduceAdd, or_false, or_true, false_or, true_or, ↓reduceIte, eq_self]
    have hl3 : G.length + k ≤ 6 := hlen3
    cases k with
    | succ k =>
      have hd' : dnD b x 0 k (G ++ [belowX b x t]) (belowS b x t) = dpE b := by rw [← hd2]; show _ = dnD b x 0 k (G ++ [belowX b x t + 0]) (belowS b x t); rw [Int.add_zero]
      repeat' first | ((with_reducible show aol _ _ _ _ _); first | (refine aol_guard_f (by rfl) ?_ ?_; (focus (simp only [go_sem]; done))) | (refine aol_guard_un (by rfl) ?_ ?_; (focus (simp only [go_sem]; done)))) | ((with_reducible refine hK _ ?_); clear hK K; try simp only [nxA, nxB]) | (with_reducible refine awp_seq fun K hK => ?_) | ((first | ((with_reducible show aol _ _ _ _ _); try first | (refine aol_guard_t (by rfl) ?_ ?_; (focus (simp only [go_sem]; done))) | (refine aol_guard_b (by rfl) (by rfl) (fun h => ?_) (fun h => ?_) <;> (try simp only [hsA, hsB, hsC, hsD, hsE, List.all_cons, List.all_nil, ne_eq, reduceCtorEq] at h))) | ((with_reducible show Awp _ _ (Code.region _ _ _) _ _); first | refine awp_regK (by repeat constructor) (fun K hK => ?_) | (refine awp_drwK (by kernel_rfl) (by repeat constructor) (fun K hK => ?_)))) <;> simp (config := { maxSteps := 2000000 }) (disch := omega) only [go_sem, ↓reduceIte, Nat.reduceEqDiff, Nat.reduceAdd, Nat.reduceLT, Nat.reduceLeDiff, Nat.reduceSub, tBel, pr_eta, hx']) | ((with_reducible show Awp _ _ (Code.cond _ _ _) _ _); refine awp_cond rfl (fun h => ?_) (fun h => ?_) <;> (try simp only [hsA, hsB, hsC, hsD, hsE, List.all_cons, List.all_nil, ne_eq, reduceCtorEq] at h)) | ((with_reducible first | refine awp_skip ?_ | refine awp_ret ?_); simp only [nxA, nxB]) | (with_reducible refine awp_block ?_) | ((with_reducible refine awp_exit ?_); simp only [nxA, ne_eq, not_false_eq_true, Nat.reduceEqDiff, reduceCtorEq]; try ((first | refine hK _ ?_ | (clear hK K; first | refine hK _ ?_ | (clear hK K; first | refine hK _ ?_ | (clear hK K; refine hK _ ?_)))); clear hK K)) | (with_reducible first | apply And.intro | exact True.intro) | ((with_reducible first | show List.all _ _ = true | show lendOk _ _ = true); rfl) | omega | ((with_reducible first | show ¬ _ | show _ → _); intro h; first | contradiction | cases h; done | skip)
      all_goals (try (first | refine fin_keep ?_ | refine finm_keep ?_; repeat clear hK))
      refine ⟨(k, G ++ [belowX b x t], belowS b x t), ⟨by show (G ++ [_]).length + k ≤ 6; rw [List.length_append, List.length_singleton]; omega, hd'⟩, Nat.lt_succ_self k, ?_⟩
      exact ⟨[0, 1, 4], rfl, rfl, by simp [-List.getD_eq_getElem?_getD, -List.length_take, List.getD_cons_zero, List.getD_cons_succ, leFr, ASt.at, keepFr, updAll, upd_zero, upd_succ, AV.rnb, AV.rnb0], by simp [-List.getD_eq_getElem?_getD, List.getD_cons_zero, List.getD_cons_succ, ASt.at, AO.rnb, AV.rnb0, upd_k0, upd_k1, upd_k2, upd_k3], rfl, rfl⟩
    | zero =>
      have hE : dpE b = (G, t) := hd2.symm
      by_cases hG : 0 < G.length
      · cases ho : onceX b 8 t with
        | true =>
          have eO : dpO b = true := by unfold dpO; rw [hE, decide_eq_true hG, ho]; rfl
          have eR : dpG b = G.set 0 (pickX b [-1, 5, 9223372036854775807] (belowS b 8 t)) := by unfold dpG; rw [if_pos eO, hE]
          repeat' first | ((with_reducible show aol _ _ _ _ _); first | (refine aol_guard_f (by rfl) ?_ ?_; (focus (simp only [go_sem]; done))) | (refine aol_guard_un (by rfl) ?_ ?_; (focus (simp only [go_sem]; done)))) | ((with_reducible refine hK _ ?_); clear hK K; try simp only [nxA, nxB]) | (with_reducible refine awp_seq fun K hK => ?_) | ((first | ((with_reducible show aol _ _ _ _ _); try first | (refine aol_guard_t (by rfl) ?_ ?_; (focus (simp only [go_sem]; done))) | (refine aol_guard_b (by rfl) (by rfl) (fun h => ?_) (fun h => ?_) <;> (try simp only [hsA, hsB, hsC, hsD, hsE, List.all_cons, List.all_nil, ne_eq, reduceCtorEq] at h))) | ((with_reducible show Awp _ _ (Code.region _ _ _) _ _); first | refine awp_regK (by repeat constructor) (fun K hK => ?_) | (refine awp_drwK (by kernel_rfl) (by repeat constructor) (fun K hK => ?_)))) <;> simp (config := { maxSteps := 2000000 }) (disch := omega) only [go_sem, ↓reduceIte, Nat.reduceEqDiff, Nat.reduceAdd, Nat.reduceLT, Nat.reduceLeDiff, Nat.reduceSub, tBel, tOnc, tPkI, pr_eta, ho]) | ((with_reducible show Awp _ _ (Code.cond _ _ _) _ _); refine awp_cond rfl (fun h => ?_) (fun h => ?_) <;> (try simp only [hsA, hsB, hsC, hsD, hsE, List.all_cons, List.all_nil, ne_eq, reduceCtorEq] at h)) | ((with_reducible first | refine awp_skip ?_ | refine awp_ret ?_); simp only [nxA, nxB]) | (with_reducible refine awp_block ?_) | ((with_reducible refine awp_exit ?_); simp only [nxA, ne_eq, not_false_eq_true, Nat.reduceEqDiff, reduceCtorEq]; try ((first | refine hK _ ?_ | (clear hK K; first | refine hK _ ?_ | (clear hK K; first | refine hK _ ?_ | (clear hK K; refine hK _ ?_)))); clear hK K)) | (with_reducible first | apply And.intro | exact True.intro) | ((with_reducible first | show List.all _ _ = true | show lendOk _ _ = true); rfl) | omega | ((with_reducible first | show ¬ _ | show _ → _); intro h; first | contradiction | cases h; done | skip)
          all_goals (try (first | refine fin_keep ?_ | refine finm_keep ?_; repeat clear hK))
          rw [eM1, eR]; exact fin_t2 [2, 1] rfl rfl rfl
        | false =>
          have eO : ¬ dpO b = true := by unfold dpO; rw [hE, ho, Bool.and_false]; decide
          have eR : dpG b = G := by unfold dpG; rw [if_neg eO, hE]
          repeat' first | ((with_reducible show aol _ _ _ _ _); first | (refine aol_guard_f (by rfl) ?_ ?_; (focus (simp only [go_sem]; done))) | (refine aol_guard_un (by rfl) ?_ ?_; (focus (simp only [go_sem]; done)))) | ((with_reducible refine hK _ ?_); clear hK K; try simp only [nxA, nxB]) | (with_reducible refine awp_seq fun K hK => ?_) | ((first | ((with_reducible show aol _ _ _ _ _); try first | (refine aol_guard_t (by rfl) ?_ ?_; (focus (simp only [go_sem]; done))) | (refine aol_guard_b (by rfl) (by rfl) (fun h => ?_) (fun h => ?_) <;> (try simp only [hsA, hsB, hsC, hsD, hsE, List.all_cons, List.all_nil, ne_eq, reduceCtorEq] at h))) | ((with_reducible show Awp _ _ (Code.region _ _ _) _ _); first | refine awp_regK (by repeat constructor) (fun K hK => ?_) | (refine awp_drwK (by kernel_rfl) (by repeat constructor) (fun K hK => ?_)))) <;> simp (config := { maxSteps := 2000000 }) (disch := omega) only [go_sem, ↓reduceIte, Nat.reduceEqDiff, Nat.reduceAdd, Nat.reduceLT, Nat.reduceLeDiff, Nat.reduceSub, tBel, tOnc, tPkI, pr_eta, ho]) | ((with_reducible show Awp _ _ (Code.cond _ _ _) _ _); refine awp_cond rfl (fun h => ?_) (fun h => ?_) <;> (try simp only [hsA, hsB, hsC, hsD, hsE, List.all_cons, List.all_nil, ne_eq, reduceCtorEq] at h)) | ((with_reducible first | refine awp_skip ?_ | refine awp_ret ?_); simp only [nxA, nxB]) | (with_reducible refine awp_block ?_) | ((with_reducible refine awp_exit ?_); simp only [nxA, ne_eq, not_false_eq_true, Nat.reduceEqDiff, reduceCtorEq]; try ((first | refine hK _ ?_ | (clear hK K; first | refine hK _ ?_ | (clear hK K; first | refine hK _ ?_ | (clear hK K; refine hK _ ?_)))); clear hK K)) | (with_reducible first | apply And.intro | exact True.intro) | ((with_reducible first | show List.all _ _ = true | show lendOk _ _ = true); rfl) | omega | ((with_reducible first | show ¬ _ | show _ → _); intro h; first | contradiction | cases h; done | skip)
          all_goals (try (first | refine fin_keep ?_ | refine finm_keep ?_; repeat clear hK))
          rw [eM1, eR]; exact fin_t2 [2, 1] rfl rfl rfl
      · have eO : ¬ dpO b = true := by unfold dpO; rw [hE, decide_eq_false hG, Bool.false_and]; decide
        have eR : dpG b = G := by unfold dpG; rw [if_neg eO, hE]
        repeat' first | ((with_reducible show aol _ _ _ _ _); first | (refine aol_guard_f (by rfl) ?_ ?_; (focus (simp only [go_sem]; done))) | (refine aol_guard_un (by rfl) ?_ ?_; (focus (simp only [go_sem]; done)))) | ((with_reducible refine hK _ ?_); clear hK K; try simp only [nxA, nxB]) | (with_reducible refine awp_seq fun K hK => ?_) | ((first | ((with_reducible show aol _ _ _ _ _); try first | (refine aol_guard_t (by rfl) ?_ ?_; (focus (simp only [go_sem]; done))) | (refine aol_guard_b (by rfl) (by rfl) (fun h => ?_) (fun h => ?_) <;> (try simp only [hsA, hsB, hsC, hsD, hsE, List.all_cons, List.all_nil, ne_eq, reduceCtorEq] at h))) | ((with_reducible show Awp _ _ (Code.region _ _ _) _ _); first | refine awp_regK (by repeat constructor) (fun K hK => ?_) | (refine awp_drwK (by kernel_rfl) (by repeat constructor) (fun K hK => ?_)))) <;> simp (config := { maxSteps := 2000000 }) (disch := omega) only [go_sem, ↓reduceIte, Nat.reduceEqDiff, Nat.reduceAdd, Nat.reduceLT, Nat.reduceLeDiff, Nat.reduceSub, tBel, tOnc, tPkI, pr_eta]) | ((with_reducible show Awp _ _ (Code.cond _ _ _) _ _); refine awp_cond rfl (fun h => ?_) (fun h => ?_) <;> (try simp only [hsA, hsB, hsC, hsD, hsE, List.all_cons, List.all_nil, ne_eq, reduceCtorEq] at h)) | ((with_reducible first | refine awp_skip ?_ | refine awp_ret ?_); simp only [nxA, nxB]) | (with_reducible refine awp_block ?_) | ((with_reducible refine awp_exit ?_); simp only [nxA, ne_eq, not_false_eq_true, Nat.reduceEqDiff, reduceCtorEq]; try ((first | refine hK _ ?_ | (clear hK K; first | refine hK _ ?_ | (clear hK K; first | refine hK _ ?_ | (clear hK K; refine hK _ ?_)))); clear hK K)) | (with_reducible first | apply And.intro | exact True.intro) | ((with_reducible first | show List.all _ _ = true | show lendOk _ _ = true); rfl) | omega | ((with_reducible first | show ¬ _ | show _ → _); intro h; first | contradiction | cases h; done | skip)
        all_goals (try (first | refine fin_keep ?_ | refine finm_keep ?_; repeat clear hK))
        rw [eM1, eR]; exact fin_t2 [2, 1] rfl rfl rfl
def mK (b : List Int) (s : Nat × Int) : Int := belowX b 7 s
def mE (b : List Int) (s : Nat × Int) : List Int × (Nat × Int) := dnD b 7 (-3) (mK b s).toNat [] (belowS b 7 s)
def mO (b : List Int) (s : Nat × Int) : Bool := decide (0 < (mE b s).1.length) && onceX b 10 (mE b s).2
def mW (b : List Int) (s : Nat × Int) : List Int := if mO b s = true then (mE b s).1.set 0 (pickX b [1000, 1001, -9223372036854775808] (belowS b 10 (mE b s).2)) else (mE b s).1
def mT (b : List Int) (s : Nat × Int) : Nat × Int := if mO b s = true then belowS b 3 (belowS b 10 (mE b s).2) else if 0 < (mE b s).1.length then belowS b 10 (mE b s).2 else (mE b s).2
def mC (b : List Int) (s : Nat × Int) : Int := pickX b [0, 1, -2, 1000, 1001] (mT b s)
def mS (b : List Int) (s : Nat × Int) : Nat × Int := belowS b 5 (mT b s)
theorem mW_len (b : List Int) (s : Nat × Int) : (mW b s).length ≤ 7 := by
  have h1 := dnD_len b 7 (-3) (mK b s).toNat [] (belowS b 7 s)
  have h2 := belowX_bd b (n := 7) (by omega) s
  have h3 : mK b s < 7 := h2.2
  have h4 : (mE b s).1.length ≤ 7 := by show (dnD b _ _ _ _ _).1.length ≤ 7; simp only [List.length_nil] at h1; omega
  unfold mW; split
  · rw [List.length_set]; exact h4
  · exact h4
def tL3M : MTab
  | [.bp 0 0], [.box T [.sl .u8 b, .i i, .i h]] => some (0 ≤ i ∧ b.length ≤ 1048576, .tu [.own 1, .i (mC b (i.toNat, h))],
      [.box T [.sl .u8 b, .i ((mS b (i.toNat, h)).1 : Int), .i (mS b (i.toNat, h)).2], .row .i64 3 (mW b (i.toNat, h))])
  | _, _ => none
theorem l3M_ok : FitsM Try.prog 183 tL3M := by
  refine ⟨?_⟩
  intro args L p out Ho h hp
  unfold tL3M at h
  split at h <;> cases h
  rename_i T b i h
  refine mok_by (env_ok2 (env := []) (envM := [(159, tBel), (165, tOnc), (176, tPkI)]) (by simp) (by simp only [List.forall_mem_cons, List.not_mem_nil, false_implies, implies_true, and_true]; exact ⟨bel_ok, onc_ok, pkI_ok⟩)) (callable_of Try.func183 (by kernel_rfl) rfl) Try.func183 rfl rfl rfl rfl rfl (by simp) ?_
  intro hlen c hc hX
  simp only [lensIn, AV.lenIn, AV.lenOk, List.getElem?_cons_zero, List.getElem?_cons_succ, true_and, and_true] at hlen
  simp only [Try.ntmps183, Try.results183, List.length_cons, List.length_nil, List.replicate, List.cons_append, List.nil_append, Nat.reduceAdd, Nat.reduceSub]
  obtain ⟨hi, hb⟩ := hp
  obtain ⟨i, rfl⟩ := Int.eq_ofNat_of_zero_le hi
  rw [Int.toNat_natCast]
  generalize hs : ((i, h) : Nat × Int) = s0
  have e1 : i = s0.1 := by rw [← hs]
  have e2 : h = s0.2 := by rw [← hs]
  subst e1 e2
  have fK : belowX b 7 s0 = mK b s0 := rfl
  have hk : 0 ≤ mK b s0 ∧ mK b s0 < 7 := belowX_bd b (by omega) _
  obtain ⟨k0, hk0⟩ := Int.eq_ofNat_of_zero_le hk.1
  repeat' first | ((with_reducible show aol _ _ _ _ _); first | (refine aol_guard_f (by rfl) ?_ ?_; (focus (simp only [go_sem]; done))) | (refine aol_guard_un (by rfl) ?_ ?_; (focus (simp only [go_sem]; done)))) | ((with_reducible refine hK _ ?_); clear hK K; try simp only [nxA, nxB]) | (with_reducible refine awp_seq fun K hK => ?_) | ((first | ((with_reducible show aol _ _ _ _ _); try first | (refine aol_guard_t (by rfl) ?_ ?_; (focus (simp only [go_sem]; done))) | (refine aol_guard_b (by rfl) (by rfl) (fun h => ?_) (fun h => ?_) <;> (try simp only [hsA, hsB, hsC, hsD, hsE, List.all_cons, List.all_nil, ne_eq, reduceCtorEq] at h))) | ((with_reducible show Awp _ _ (Code.region _ _ _) _ _); first | refine awp_regK (by repeat constructor) (fun K hK => ?_) | (refine awp_drwK (by kernel_rfl) (by repeat constructor) (fun K hK => ?_)))) <;> simp (config := { maxSteps := 2000000 }) (disch := omega) only [go_sem, ↓reduceIte, Nat.reduceEqDiff, Nat.reduceAdd, Nat.reduceLT, Nat.reduceLeDiff, Nat.reduceSub, tBel, pr_eta, fK]) | ((with_reducible show Awp _ _ (Code.cond _ _ _) _ _); refine awp_cond rfl (fun h => ?_) (fun h => ?_) <;> (try simp only [hsA, hsB, hsC, hsD, hsE, List.all_cons, List.all_nil, ne_eq, reduceCtorEq] at h)) | ((with_reducible first | refine awp_skip ?_ | refine awp_ret ?_); simp only [nxA, nxB]) | (with_reducible refine awp_block ?_) | ((with_reducible refine awp_exit ?_); simp only [nxA, ne_eq, not_false_eq_true, Nat.reduceEqDiff, reduceCtorEq]; try ((first | refine hK _ ?_ | (clear hK K; first | refine hK _ ?_ | (clear hK K; first | refine hK _ ?_ | (clear hK K; refine hK _ ?_)))); clear hK K)) | (with_reducible first | apply And.intro | exact True.intro) | ((with_reducible first | show List.all _ _ = true | show lendOk _ _ = true); rfl) | omega | ((with_reducible first | show ¬ _ | show _ → _); intro h; first | contradiction | cases h; done | skip)
  all_goals (try (first | refine fin_keep ?_ | refine finm_keep ?_; repeat clear hK))
  refine awp_forR 1 hX (fun st (x : Nat × List Int × (Nat × Int)) => st.at [0] [(4, .own 1), (5, .i x.1)] [.box T [.sl .u8 b, .i (x.2.2.1 : Int), .i x.2.2.2], .row .i64 3 x.2.1])
    (fun x => x.2.1.length + x.1 ≤ 7 ∧ dnD b 7 (-3) x.1 x.2.1 x.2.2 = mE b s0) (fun x => x.1) (k0, [], belowS b 7 s0) ⟨by simp only [List.length_nil]; omega, ?_⟩ ?_ ?_
  · show dnD b 7 (-3) k0 [] _ = dnD b 7 (-3) (mK b s0).toNat [] _
    rw [hk0, Int.toNat_natCast]
  · exact ⟨[0, 1], rfl, rfl, by simp [-List.getD_eq_getElem?_getD, -List.length_take, List.getD_cons_zero, List.getD_cons_succ, leFr, ASt.at, keepFr, updAll, upd_zero, upd_succ, AV.rnb, AV.rnb0, hk0], by simp [-List.getD_eq_getElem?_getD, List.getD_cons_zero, List.getD_cons_succ, ASt.at, AO.rnb, AV.rnb0, upd_k0, upd_k1, upd_k2, upd_k3, hk0], rfl, rfl⟩
  rintro ⟨k, L, s⟩ ⟨hlen2, hd⟩
  simp only [ASt.at, keepFr, updAll, upd_zero, upd_succ, List.mem_cons, List.not_mem_nil, Nat.reduceEqDiff, Nat.reduceAdd, or_false, or_true, false_or, true_or, ↓reduceIte, eq_self]
  have hl2 : L.length + k ≤ 7 := hlen2
  cases k with
  | succ k =>
    have hb7 := belowX_bd b (n := 7) (by omega) s
    have hsub : belowX b 7 s - 3 = belowX b 7 s + -3 := by omega
    have hd' : dnD b 7 (-3) k (L ++ [belowX b 7 s + -3]) (belowS b 7 s) = mE b s0 := hd
    repeat' first | ((with_reducible show aol _ _ _ _ _); first | (refine aol_guard_f (by rfl) ?_ ?_; (focus (simp only [go_sem]; done))) | (refine aol_guard_un (by rfl) ?_ ?_; (focus (simp only [go_sem]; done)))) | ((with_reducible refine hK _ ?_); clear hK K; try simp only [nxA, nxB]) | (with_reducible refine awp_seq fun K hK => ?_) | ((first | ((with_reducible show aol _ _ _ _ _); try first | (refine aol_guard_t (by rfl) ?_ ?_; (focus (simp only [go_sem]; done))) | (refine aol_guard_b (by rfl) (by rfl) (fun h => ?_) (fun h => ?_) <;> (try simp only [hsA, hsB, hsC, hsD, hsE, List.all_cons, List.all_nil, ne_eq, reduceCtorEq] at h))) | ((with_reducible show Awp _ _ (Code.region _ _ _) _ _); first | refine awp_regK (by repeat constructor) (fun K hK => ?_) | (refine awp_drwK (by kernel_rfl) (by repeat constructor) (fun K hK => ?_)))) <;> simp (config := { maxSteps := 2000000 }) (disch := omega) only [go_sem, ↓reduceIte, Nat.reduceEqDiff, Nat.reduceAdd, Nat.reduceLT, Nat.reduceLeDiff, Nat.reduceSub, tBel, pr_eta, hsub]) | ((with_reducible show Awp _ _ (Code.cond _ _ _) _ _); refine awp_cond rfl (fun h => ?_) (fun h => ?_) <;> (try simp only [hsA, hsB, hsC, hsD, hsE, List.all_cons, List.all_nil, ne_eq, reduceCtorEq] at h)) | ((with_reducible first | refine awp_skip ?_ | refine awp_ret ?_); simp only [nxA, nxB]) | (with_reducible refine awp_block ?_) | ((with_reducible refine awp_exit ?_); simp only [nxA, ne_eq, not_false_eq_true, Nat.reduceEqDiff, reduceCtorEq]; try ((first | refine hK _ ?_ | (clear hK K; first | refine hK _ ?_ | (clear hK K; first | refine hK _ ?_ | (clear hK K; refine hK _ ?_)))); clear hK K)) | (with_reducible first | apply And.intro | exact True.intro) | ((with_reducible first | show List.all _ _ = true | show lendOk _ _ = true); rfl) | omega | ((with_reducible first | show ¬ _ | show _ → _); intro h; first | contradiction | cases h; done | skip)
    all_goals (try (first | refine fin_keep ?_ | refine finm_keep ?_; repeat clear hK))
    refine ⟨(k, L ++ [belowX b 7 s + -3], belowS b 7 s), ⟨by show (L ++ [_]).length + k ≤ 7; rw [List.length_append, List.length_singleton]; omega, hd'⟩, Nat.lt_succ_self k, ?_⟩
    exact ⟨[0, 3], rfl, rfl, by simp [-List.getD_eq_getElem?_getD, -List.length_take, List.getD_cons_zero, List.getD_cons_succ, leFr, ASt.at, keepFr, updAll, upd_zero, upd_succ, AV.rnb, AV.rnb0], by simp [-List.getD_eq_getElem?_getD, List.getD_cons_zero, List.getD_cons_succ, ASt.at, AO.rnb, AV.rnb0, upd_k0, upd_k1, upd_k2, upd_k3], rfl, rfl⟩
  | zero =>
    have hE : mE b s0 = (L, s) := hd.symm
    by_cases hL : 0 < L.length
    · cases ho : onceX b 10 s with
      | true =>
        have eO : mO b s0 = true := by unfold mO; rw [hE, decide_eq_true hL, ho]; rfl
        have eW : mW b s0 = L.set 0 (pickX b [1000, 1001, -9223372036854775808] (belowS b 10 s)) := by unfold mW; rw [if_pos eO, hE]
        have eT : mT b s0 = belowS b 3 (belowS b 10 s) := by unfold mT; rw [if_pos eO, hE]
        have eC : mC b s0 = pickX b [0, 1, -2, 1000, 1001] (belowS b 3 (belowS b 10 s)) := by unfold mC; rw [eT]
        have eS : mS b s0 = belowS b 5 (belowS b 3 (belowS b 10 s)) := by unfold mS; rw [eT]
        repeat' first | ((with_reducible show aol _ _ _ _ _); first | (refine aol_guard_f (by rfl) ?_ ?_; (focus (simp only [go_sem]; done))) | (refine aol_guard_un (by rfl) ?_ ?_; (focus (simp only [go_sem]; done)))) | ((with_reducible refine hK _ ?_); clear hK K; try simp only [nxA, nxB]) | (with_reducible refine awp_seq fun K hK => ?_) | ((first | ((with_reducible show aol _ _ _ _ _); try first | (refine aol_guard_t (by rfl) ?_ ?_; (focus (simp only [go_sem]; done))) | (refine aol_guard_b (by rfl) (by rfl) (fun h => ?_) (fun h => ?_) <;> (try simp only [hsA, hsB, hsC, hsD, hsE, List.all_cons, List.all_nil, ne_eq, reduceCtorEq] at h))) | ((with_reducible show Awp _ _ (Code.region _ _ _) _ _); first | refine awp_regK (by repeat constructor) (fun K hK => ?_) | (refine awp_drwK (by kernel_rfl) (by repeat constructor) (fun K hK => ?_)))) <;> simp (config := { maxSteps := 2000000 }) (disch := omega) only [go_sem, ↓reduceIte, Nat.reduceEqDiff, Nat.reduceAdd, Nat.reduceLT, Nat.reduceLeDiff, Nat.reduceSub, tBel, tOnc, tPkI, pr_eta, ho]) | ((with_reducible show Awp _ _ (Code.cond _ _ _) _ _); refine awp_cond rfl (fun h => ?_) (fun h => ?_) <;> (try simp only [hsA, hsB, hsC, hsD, hsE, List.all_cons, List.all_nil, ne_eq, reduceCtorEq] at h)) | ((with_reducible first | refine awp_skip ?_ | refine awp_ret ?_); simp only [nxA, nxB]) | (with_reducible refine awp_block ?_) | ((with_reducible refine awp_exit ?_); simp only [nxA, ne_eq, not_false_eq_true, Nat.reduceEqDiff, reduceCtorEq]; try ((first | refine hK _ ?_ | (clear hK K; first | refine hK _ ?_ | (clear hK K; first | refine hK _ ?_ | (clear hK K; refine hK _ ?_)))); clear hK K)) | (with_reducible first | apply And.intro | exact True.intro) | ((with_reducible first | show List.all _ _ = true | show lendOk _ _ = true); rfl) | omega | ((with_reducible first | show ¬ _ | show _ → _); intro h; first | contradiction | cases h; done | skip)
        all_goals (try (first | refine fin_keep ?_ | refine finm_keep ?_; repeat clear hK))
        rw [eW, eC, eS]; exact finm_t2 [0, 1] rfl rfl rfl rfl
      | false =>
        have eO : ¬ mO b s0 = true := by unfold mO; rw [hE, ho, Bool.and_false]; decide
        have eW : mW b s0 = L := by unfold mW; rw [if_neg eO, hE]
        have eT : mT b s0 = belowS b 10 s := by unfold mT; rw [if_neg eO, hE, if_pos hL]
        have eC : mC b s0 = pickX b [0, 1, -2, 1000, 1001] (belowS b 10 s) := by unfold mC; rw [eT]
        have eS : mS b s0 = belowS b 5 (belowS b 10 s) := by unfold mS; rw [eT]
        repeat' first | ((with_reducible show aol _ _ _ _ _); first | (refine aol_guard_f (by rfl) ?_ ?_; (focus (simp only [go_sem]; done))) | (refine aol_guard_un (by rfl) ?_ ?_; (focus (simp only [go_sem]; done)))) | ((with_reducible refine hK _ ?_); clear hK K; try simp only [nxA, nxB]) | (with_reducible refine awp_seq fun K hK => ?_) | ((first | ((with_reducible show aol _ _ _ _ _); try first | (refine aol_guard_t (by rfl) ?_ ?_; (focus (simp only [go_sem]; done))) | (refine aol_guard_b (by rfl) (by rfl) (fun h => ?_) (fun h => ?_) <;> (try simp only [hsA, hsB, hsC, hsD, hsE, List.all_cons, List.all_nil, ne_eq, reduceCtorEq] at h))) | ((with_reducible show Awp _ _ (Code.region _ _ _) _ _); first | refine awp_regK (by repeat constructor) (fun K hK => ?_) | (refine awp_drwK (by kernel_rfl) (by repeat constructor) (fun K hK => ?_)))) <;> simp (config := { maxSteps := 2000000 }) (disch := omega) only [go_sem, ↓reduceIte, Nat.reduceEqDiff, Nat.reduceAdd, Nat.reduceLT, Nat.reduceLeDiff, Nat.reduceSub, tBel, tOnc, tPkI, pr_eta, ho]) | ((with_reducible show Awp _ _ (Code.cond _ _ _) _ _); refine awp_cond rfl (fun h => ?_) (fun h => ?_) <;> (try simp only [hsA, hsB, hsC, hsD, hsE, List.all_cons, List.all_nil, ne_eq, reduceCtorEq] at h)) | ((with_reducible first | refine awp_skip ?_ | refine awp_ret ?_); simp only [nxA, nxB]) | (with_reducible refine awp_block ?_) | ((with_reducible refine awp_exit ?_); simp only [nxA, ne_eq, not_false_eq_true, Nat.reduceEqDiff, reduceCtorEq]; try ((first | refine hK _ ?_ | (clear hK K; first | refine hK _ ?_ | (clear hK K; first | refine hK _ ?_ | (clear hK K; refine hK _ ?_)))); clear hK K)) | (with_reducible first | apply And.intro | exact True.intro) | ((with_reducible first | show List.all _ _ = true | show lendOk _ _ = true); rfl) | omega | ((with_reducible first | show ¬ _ | show _ → _); intro h; first | contradiction | cases h; done | skip)
        all_goals (try (first | refine fin_keep ?_ | refine finm_keep ?_; repeat clear hK))
        rw [eW, eC, eS]; exact finm_t2 [0, 1] rfl rfl rfl rfl
    · have eO : ¬ mO b s0 = true := by unfold mO; rw [hE, decide_eq_false hL, Bool.false_and]; decide
      have eW : mW b s0 = L := by unfold mW; rw [if_neg eO, hE]
      have eT : mT b s0 = s := by unfold mT; rw [if_neg eO, hE, if_neg hL]
      have eC : mC b s0 = pickX b [0, 1, -2, 1000, 1001] s := by unfold mC; rw [eT]
      have eS : mS b s0 = belowS b 5 s := by unfold mS; rw [eT]
      repeat' first | ((with_reducible show aol _ _ _ _ _); first | (refine aol_guard_f (by rfl) ?_ ?_; (focus (simp only [go_sem]; done))) | (refine aol_guard_un (by rfl) ?_ ?_; (focus (simp only [go_sem]; done)))) | ((with_reducible refine hK _ ?_); clear hK K; try simp only [nxA, nxB]) | (with_reducible refine awp_seq fun K hK => ?_) | ((first | ((with_reducible show aol _ _ _ _ _); try first | (refine aol_guard_t (by rfl) ?_ ?_; (focus (simp only [go_sem]; done))) | (refine aol_guard_b (by rfl) (by rfl) (fun h => ?_) (fun h => ?_) <;> (try simp only [hsA, hsB, hsC, hsD, hsE, List.all_cons, List.all_nil, ne_eq, reduceCtorEq] at h))) | ((with_reducible show Awp _ _ (Code.region _ _ _) _ _); first | refine awp_regK (by repeat constructor) (fun K hK => ?_) | (refine awp_drwK (by kernel_rfl) (by repeat constructor) (fun K hK => ?_)))) <;> simp (config := { maxSteps := 2000000 }) (disch := omega) only [go_sem, ↓reduceIte, Nat.reduceEqDiff, Nat.reduceAdd, Nat.reduceLT, Nat.reduceLeDiff, Nat.reduceSub, tBel, tOnc, tPkI, pr_eta]) | ((with_reducible show Awp _ _ (Code.cond _ _ _) _ _); refine awp_cond rfl (fun h => ?_) (fun h => ?_) <;> (try simp only [hsA, hsB, hsC, hsD, hsE, List.all_cons, List.all_nil, ne_eq, reduceCtorEq] at h)) | ((with_reducible first | refine awp_skip ?_ | refine awp_ret ?_); simp only [nxA, nxB]) | (with_reducible refine awp_block ?_) | ((with_reducible refine awp_exit ?_); simp only [nxA, ne_eq, not_false_eq_true, Nat.reduceEqDiff, reduceCtorEq]; try ((first | refine hK _ ?_ | (clear hK K; first | refine hK _ ?_ | (clear hK K; first | refine hK _ ?_ | (clear hK K; refine hK _ ?_)))); clear hK K)) | (with_reducible first | apply And.intro | exact True.intro) | ((with_reducible first | show List.all _ _ = true | show lendOk _ _ = true); rfl) | omega | ((with_reducible first | show ¬ _ | show _ → _); intro h; first | contradiction | cases h; done | skip)
      all_goals (try (first | refine fin_keep ?_ | refine finm_keep ?_; repeat clear hK))
      rw [eW, eC, eS]; exact finm_t2 [0, 1] rfl rfl rfl rfl
def tDrMd : Tab
  | [.sl .u8 b] => some (b.length ≤ 1048576, .tu [.own 0, .i (mC b (newV b))], [.row .i64 3 (mW b (newV b))])
  | _ => none
theorem drMd_ok : Fits Try.prog 83 tDrMd := by
  refine ⟨callable_of Try.func83 (by kernel_rfl) rfl, ?_⟩
  intro args p out Ho h hp
  unfold tDrMd at h
  split at h <;> cases h
  rename_i b
  refine ⟨acall_by (env_ok2 (env := []) (envM := [(131, tNew), (183, tL3M)]) (by simp) (by simp only [List.forall_mem_cons, List.not_mem_nil, false_implies, implies_true, and_true]; exact ⟨new_ok, l3M_ok⟩)) Try.func83 rfl rfl rfl rfl rfl ?_, rfl, rfl⟩
  intro hlen c hc hX
  simp only [lensOk, AV.lenOk, true_and, and_true] at hlen
  simp only [Try.ntmps83, Try.results83, List.length_cons, List.length_nil, List.replicate, List.cons_append, List.nil_append, Nat.reduceAdd, Nat.reduceSub]
  have hl := mW_len b (newV b)
  repeat' first | ((with_reducible show aol _ _ _ _ _); first | (refine aol_guard_f (by rfl) ?_ ?_; (focus (simp only [go_sem]; done))) | (refine aol_guard_un (by rfl) ?_ ?_; (focus (simp only [go_sem]; done)))) | ((with_reducible refine hK _ ?_); clear hK K; try simp only [nxA, nxB]) | (with_reducible refine awp_seq fun K hK => ?_) | ((first | ((with_reducible show aol _ _ _ _ _); try first | (refine aol_guard_t (by rfl) ?_ ?_; (focus (simp only [go_sem]; done))) | (refine aol_guard_b (by rfl) (by rfl) (fun h => ?_) (fun h => ?_) <;> (try simp only [hsA, hsB, hsC, hsD, hsE, List.all_cons, List.all_nil, ne_eq, reduceCtorEq] at h))) | ((with_reducible show Awp _ _ (Code.region _ _ _) _ _); first | refine awp_regK (by repeat constructor) (fun K hK => ?_) | (refine awp_drwK (by kernel_rfl) (by repeat constructor) (fun K hK => ?_)))) <;> simp (config := { maxSteps := 2000000 }) (disch := omega) only [go_sem, ↓reduceIte, Nat.reduceEqDiff, Nat.reduceAdd, Nat.reduceLT, Nat.reduceLeDiff, Nat.reduceSub, tNew, tL3M, pr_eta]) | ((with_reducible show Awp _ _ (Code.cond _ _ _) _ _); refine awp_cond rfl (fun h => ?_) (fun h => ?_) <;> (try simp only [hsA, hsB, hsC, hsD, hsE, List.all_cons, List.all_nil, ne_eq, reduceCtorEq] at h)) | ((with_reducible first | refine awp_skip ?_ | refine awp_ret ?_); simp only [nxA, nxB]) | (with_reducible refine awp_block ?_) | ((with_reducible refine awp_exit ?_); simp only [nxA, ne_eq, not_false_eq_true, Nat.reduceEqDiff, reduceCtorEq]; try ((first | refine hK _ ?_ | (clear hK K; first | refine hK _ ?_ | (clear hK K; first | refine hK _ ?_ | (clear hK K; refine hK _ ?_)))); clear hK K)) | (with_reducible first | apply And.intro | exact True.intro) | ((with_reducible first | show List.all _ _ = true | show lendOk _ _ = true); rfl) | omega | ((with_reducible first | show ¬ _ | show _ → _); intro h; first | contradiction | cases h; done | skip)
  all_goals (try (first | refine fin_keep ?_ | refine finm_keep ?_; repeat clear hK))
  exact fin_t2 [1] rfl rfl rfl
def diO (b : List Int) : Bool := mdB (mW b (newV b)) (mC b (newV b)) && onceX b 2 (mS b (newV b))
def diT (b : List Int) : Nat × Int := if mdB (mW b (newV b)) (mC b (newV b)) = true then belowS b 2 (mS b (newV b)) else mS b (newV b)
def diN (b : List Int) : Int := if diO b = true then ((mW b (newV b)).length : Int) else l2AN b (diT b)
def diL (b : List Int) : List Int := if diO b = true then mdL (mW b (newV b)) (mC b (newV b)) else l2AL b (diT b)
def tDrIm : Tab
  | [.sl .u8 b] => some (b.length ≤ 1048576, .ag [.i (diN b), .own 0], [.row .i64 3 (diL b)])
  | _ => none
theorem drIm_ok : Fits Try.prog 86 tDrIm := by
  refine ⟨callable_of Try.func86 (by kernel_rfl) rfl, ?_⟩
  intro args p out Ho h hp
  unfold tDrIm at h
  split at h <;> cases h
  rename_i b
  refine ⟨acall_by (env_ok2 (env := [(85, tMdF)]) (envM := [(131, tNew), (183, tL3M), (165, tOnc), (185, tL2A)]) (by simp only [List.forall_mem_cons, List.not_mem_nil, false_implies, implies_true, and_true]; exact specMdF_ok) (by simp only [List.forall_mem_cons, List.not_mem_nil, false_implies, implies_true, and_true]; exact ⟨new_ok, l3M_ok, onc_ok, l2A_ok⟩)) Try.func86 rfl rfl rfl rfl rfl ?_, rfl, rfl⟩
  intro hlen c hc hX
  simp only [lensOk, AV.lenOk, true_and, and_true] at hlen
  simp only [Try.ntmps86, Try.results86, List.length_cons, List.length_nil, List.replicate, List.cons_append, List.nil_append, Nat.reduceAdd, Nat.reduceSub]
  have hwl := mW_len b (newV b)
  have hal := l2AL_len b (diT b)
  obtain ⟨w, hw⟩ : ∃ w, mW b (newV b) = w := ⟨_, rfl⟩
  obtain ⟨c, hcc⟩ : ∃ c, mC b (newV b) = c := ⟨_, rfl⟩
  obtain ⟨s, hs⟩ : ∃ s, mS b (newV b) = s := ⟨_, rfl⟩
  rw [hw] at hwl
  cases hg : mdB w c with
  | false =>
    have eO : ¬ diO b = true := by unfold diO; rw [hw, hcc, hg]; simp
    have eT : diT b = s := by unfold diT; rw [hw, hcc, hg, if_neg (by decide), hs]
    have eN : diN b = l2AN b s := by unfold diN; rw [if_neg eO, eT]
    have eL : diL b = l2AL b s := by unfold diL; rw [if_neg eO, eT]
    rw [eN, eL]
    rw [eT] at hal
    repeat' first | ((with_reducible show aol _ _ _ _ _); first | (refine aol_guard_f (by rfl) ?_ ?_; (focus (simp only [go_sem]; done))) | (refine aol_guard_un (by rfl) ?_ ?_; (focus (simp only [go_sem]; done)))) | ((with_reducible refine hK _ ?_); clear hK K; try simp only [nxA, nxB]) | (with_reducible refine awp_seq fun K hK => ?_) | ((first | ((with_reducible show aol _ _ _ _ _); try first | (refine aol_guard_t (by rfl) ?_ ?_; (focus (simp only [go_sem]; done))) | (refine aol_guard_b (by rfl) (by rfl) (fun h => ?_) (fun h => ?_) <;> (try simp only [hsA, hsB, hsC, hsD, hsE, List.all_cons, List.all_nil, ne_eq, reduceCtorEq] at h))) | ((with_reducible show Awp _ _ (Code.region _ _ _) _ _); first | refine awp_regK (by repeat constructor) (fun K hK => ?_) | (refine awp_drwK (by kernel_rfl) (by repeat constructor) (fun K hK => ?_)))) <;> simp (config := { maxSteps := 2000000 }) (disch := omega) only [go_sem, ↓reduceIte, Nat.reduceEqDiff, Nat.reduceAdd, Nat.reduceLT, Nat.reduceLeDiff, Nat.reduceSub, tNew, tL3M, pr_eta, hw, hcc, hs, tMdF, hg, tL2A]) | ((with_reducible show Awp _ _ (Code.cond _ _ _) _ _); refine awp_cond rfl (fun h => ?_) (fun h => ?_) <;> (try simp only [hsA, hsB, hsC, hsD, hsE, List.all_cons, List.all_nil, ne_eq, reduceCtorEq] at h)) | ((with_reducible first | refine awp_skip ?_ | refine awp_ret ?_); simp only [nxA, nxB]) | (with_reducible refine awp_block ?_) | ((with_reducible refine awp_exit ?_); simp only [nxA, ne_eq, not_false_eq_true, Nat.reduceEqDiff, reduceCtorEq]; try ((first | refine hK _ ?_ | (clear hK K; first | refine hK _ ?_ | (clear hK K; first | refine hK _ ?_ | (clear hK K; refine hK _ ?_)))); clear hK K)) | (with_reducible first | apply And.intro | exact True.intro) | ((with_reducible first | show List.all _ _ = true | show lendOk _ _ = true); rfl) | omega | ((with_reducible first | show ¬ _ | show _ → _); intro h; first | contradiction | cases h; done | skip)
    all_goals (try (first | refine fin_keep ?_ | refine finm_keep ?_; repeat clear hK))
    exact fin_pair (d := tPair) (j := 5) rfl rfl rfl rfl rfl rfl
  | true =>
    cases ho : onceX b 2 s with
    | true =>
      have eO : diO b = true := by unfold diO; rw [hw, hcc, hg, hs, ho]; rfl
      have eN : diN b = (w.length : Int) := by unfold diN; rw [if_pos eO, hw]
      have eL : diL b = mdL w c := by unfold diL; rw [if_pos eO, hw, hcc]
      rw [eN, eL]
      repeat' first | ((with_reducible show aol _ _ _ _ _); first | (refine aol_guard_f (by rfl) ?_ ?_; (focus (simp only [go_sem]; done))) | (refine aol_guard_un (by rfl) ?_ ?_; (focus (simp only [go_sem]; done)))) | ((with_reducible refine hK _ ?_); clear hK K; try simp only [nxA, nxB]) | (with_reducible refine awp_seq fun K hK => ?_) | ((first | ((with_reducible show aol _ _ _ _ _); try first | (refine aol_guard_t (by rfl) ?_ ?_; (focus (simp only [go_sem]; done))) | (refine aol_guard_b (by rfl) (by rfl) (fun h => ?_) (fun h => ?_) <;> (try simp only [hsA, hsB, hsC, hsD, hsE, List.all_cons, List.all_nil, ne_eq, reduceCtorEq] at h))) | ((with_reducible show Awp _ _ (Code.region _ _ _) _ _); first | refine awp_regK (by repeat constructor) (fun K hK => ?_) | (refine awp_drwK (by kernel_rfl) (by repeat constructor) (fun K hK => ?_)))) <;> simp (config := { maxSteps := 2000000 }) (disch := omega) only [go_sem, ↓reduceIte, Nat.reduceEqDiff, Nat.reduceAdd, Nat.reduceLT, Nat.reduceLeDiff, Nat.reduceSub, tNew, tL3M, pr_eta, hw, hcc, hs, tMdF, hg, tOnc, ho, or0_t, orE_t]) | ((with_reducible show Awp _ _ (Code.cond _ _ _) _ _); refine awp_cond rfl (fun h => ?_) (fun h => ?_) <;> (try simp only [hsA, hsB, hsC, hsD, hsE, List.all_cons, List.all_nil, ne_eq, reduceCtorEq] at h)) | ((with_reducible first | refine awp_skip ?_ | refine awp_ret ?_); simp only [nxA, nxB]) | (with_reducible refine awp_block ?_) | ((with_reducible refine awp_exit ?_); simp only [nxA, ne_eq, not_false_eq_true, Nat.reduceEqDiff, reduceCtorEq]; try ((first | refine hK _ ?_ | (clear hK K; first | refine hK _ ?_ | (clear hK K; first | refine hK _ ?_ | (clear hK K; refine hK _ ?_)))); clear hK K)) | (with_reducible first | apply And.intro | exact True.intro) | ((with_reducible first | show List.all _ _ = true | show lendOk _ _ = true); rfl) | omega | ((with_reducible first | show ¬ _ | show _ → _); intro h; first | contradiction | cases h; done | skip)
      all_goals (try (first | refine fin_keep ?_ | refine finm_keep ?_; repeat clear hK))
      exact fin_pair (d := tPair) (j := 3) rfl rfl rfl rfl rfl rfl
    | false =>
      have eO : ¬ diO b = true := by unfold diO; rw [hw, hcc, hg, hs, ho]; decide
      have eT : diT b = belowS b 2 s := by unfold diT; rw [hw, hcc, if_pos hg, hs]
      have eN : diN b = l2AN b (belowS b 2 s) := by unfold diN; rw [if_neg eO, eT]
      have eL : diL b = l2AL b (belowS b 2 s) := by unfold diL; rw [if_neg eO, eT]
      rw [eN, eL]
      rw [eT] at hal
      repeat' first | ((with_reducible show aol _ _ _ _ _); first | (refine aol_guard_f (by rfl) ?_ ?_; (focus (simp only [go_sem]; done))) | (refine aol_guard_un (by rfl) ?_ ?_; (focus (simp only [go_sem]; done)))) | ((with_reducible refine hK _ ?_); clear hK K; try simp only [nxA, nxB]) | (with_reducible refine awp_seq fun K hK => ?_) | ((first | ((with_reducible show aol _ _ _ _ _); try first | (refine aol_guard_t (by rfl) ?_ ?_; (focus (simp only [go_sem]; done))) | (refine aol_guard_b (by rfl) (by rfl) (fun h => ?_) (fun h => ?_) <;> (try simp only [hsA, hsB, hsC, hsD, hsE, List.all_cons, List.all_nil, ne_eq, reduceCtorEq] at h))) | ((with_reducible show Awp _ _ (Code.region _ _ _) _ _); first | refine awp_regK (by repeat constructor) (fun K hK => ?_) | (refine awp_drwK (by kernel_rfl) (by repeat constructor) (fun K hK => ?_)))) <;> simp (config := { maxSteps := 2000000 }) (disch := omega) only [go_sem, ↓reduceIte, Nat.reduceEqDiff, Nat.reduceAdd, Nat.reduceLT, Nat.reduceLeDiff, Nat.reduceSub, tNew, tL3M, pr_eta, hw, hcc, hs, tMdF, hg, tOnc, ho, tL2A, or0_t, orE_t]) | ((with_reducible show Awp _ _ (Code.cond _ _ _) _ _); refine awp_cond rfl (fun h => ?_) (fun h => ?_) <;> (try simp only [hsA, hsB, hsC, hsD, hsE, List.all_cons, List.all_nil, ne_eq, reduceCtorEq] at h)) | ((with_reducible first | refine awp_skip ?_ | refine awp_ret ?_); simp only [nxA, nxB]) | (with_reducible refine awp_block ?_) | ((with_reducible refine awp_exit ?_); simp only [nxA, ne_eq, not_false_eq_true, Nat.reduceEqDiff, reduceCtorEq]; try ((first | refine hK _ ?_ | (clear hK K; first | refine hK _ ?_ | (clear hK K; first | refine hK _ ?_ | (clear hK K; refine hK _ ?_)))); clear hK K)) | (with_reducible first | apply And.intro | exact True.intro) | ((with_reducible first | show List.all _ _ = true | show lendOk _ _ = true); rfl) | omega | ((with_reducible first | show ¬ _ | show _ → _); intro h; first | contradiction | cases h; done | skip)
      all_goals (try (first | refine fin_keep ?_ | refine finm_keep ?_; repeat clear hK))
      exact fin_pair (d := tPair) (j := 5) rfl rfl rfl rfl rfl rfl
def anN (b : List Int) : Int := l2AN b (newV b)
def anL (b : List Int) : List Int := l2AL b (newV b)
def duO (b : List Int) : Bool := fnV (anN b) (anL b) && onceX b 2 (l2AS b (newV b))
def duL (b : List Int) : List Int := if duO b = true then ngL (anN b) (anL b) else anL b
def tDrIs : Tab
  | [.sl .u8 b] => some (b.length ≤ 1048576, .ag [.i (anN b), .own 0], [.row .i64 3 (duL b)])
  | _ => none
theorem drIs_ok : Fits Try.prog 87 tDrIs := by
  refine ⟨callable_of Try.func87 (by kernel_rfl) rfl, ?_⟩
  intro args p out Ho h hp
  unfold tDrIs at h
  split at h <;> cases h
  rename_i b
  refine ⟨acall_by (env_ok2 (env := [(186, tNg)]) (envM := [(131, tNew), (165, tOnc), (185, tL2A)]) (by simp only [List.forall_mem_cons, List.not_mem_nil, false_implies, implies_true, and_true]; exact specNg_ok) (by simp only [List.forall_mem_cons, List.not_mem_nil, false_implies, implies_true, and_true]; exact ⟨new_ok, onc_ok, l2A_ok⟩)) Try.func87 rfl rfl rfl rfl rfl ?_, rfl, rfl⟩
  intro hlen c hc hX
  simp only [lensOk, AV.lenOk, true_and, and_true] at hlen
  simp only [Try.ntmps87, Try.results87, List.length_cons, List.length_nil, List.replicate, List.cons_append, List.nil_append, Nat.reduceAdd, Nat.reduceSub]
  have hal := l2AL_len b (newV b)
  obtain ⟨n, hn⟩ : ∃ n, l2AN b (newV b) = n := ⟨_, rfl⟩
  obtain ⟨l, hl⟩ : ∃ l, l2AL b (newV b) = l := ⟨_, rfl⟩
  obtain ⟨s, hs⟩ : ∃ s, l2AS b (newV b) = s := ⟨_, rfl⟩
  have eN : anN b = n := hn
  have eL : anL b = l := hl
  rw [hl] at hal
  rw [eN]
  cases hf : fnV n l with
  | false =>
    have eO : ¬ duO b = true := by unfold duO; rw [eN, eL, hf]; simp
    have eU : duL b = l := by unfold duL; rw [if_neg eO, eL]
    rw [eU]
    repeat' first | ((with_reducible show aol _ _ _ _ _); first | (refine aol_guard_f (by rfl) ?_ ?_; (focus (simp only [go_sem]; done))) | (refine aol_guard_un (by rfl) ?_ ?_; (focus (simp only [go_sem]; done)))) | ((with_reducible refine hK _ ?_); clear hK K; try simp only [nxA, nxB]) | (with_reducible refine awp_seq fun K hK => ?_) | ((first | ((with_reducible show aol _ _ _ _ _); try first | (refine aol_guard_t (by rfl) ?_ ?_; (focus (simp only [go_sem]; done))) | (refine aol_guard_b (by rfl) (by rfl) (fun h => ?_) (fun h => ?_) <;> (try simp only [hsA, hsB, hsC, hsD, hsE, List.all_cons, List.all_nil, ne_eq, reduceCtorEq] at h))) | ((with_reducible show Awp _ _ (Code.region _ _ _) _ _); first | refine awp_regK (by repeat constructor) (fun K hK => ?_) | (refine awp_drwK (by kernel_rfl) (by repeat constructor) (fun K hK => ?_)))) <;> simp (config := { maxSteps := 2000000 }) (disch := omega) only [go_sem, ↓reduceIte, Nat.reduceEqDiff, Nat.reduceAdd, Nat.reduceLT, Nat.reduceLeDiff, Nat.reduceSub, tNew, tL2A, pr_eta, hn, hl, hs, tNg, hf]) | ((with_reducible show Awp _ _ (Code.cond _ _ _) _ _); refine awp_cond rfl (fun h => ?_) (fun h => ?_) <;> (try simp only [hsA, hsB, hsC, hsD, hsE, List.all_cons, List.all_nil, ne_eq, reduceCtorEq] at h)) | ((with_reducible first | refine awp_skip ?_ | refine awp_ret ?_); simp only [nxA, nxB]) | (with_reducible refine awp_block ?_) | ((with_reducible refine awp_exit ?_); simp only [nxA, ne_eq, not_false_eq_true, Nat.reduceEqDiff, reduceCtorEq]; try ((first | refine hK _ ?_ | (clear hK K; first | refine hK _ ?_ | (clear hK K; first | refine hK _ ?_ | (clear hK K; refine hK _ ?_)))); clear hK K)) | (with_reducible first | apply And.intro | exact True.intro) | ((with_reducible first | show List.all _ _ = true | show lendOk _ _ = true); rfl) | omega | ((with_reducible first | show ¬ _ | show _ → _); intro h; first | contradiction | cases h; done | skip)
    all_goals (try (first | refine fin_keep ?_ | refine finm_keep ?_; repeat clear hK))
    exact fin_pair (d := tPair) (j := 2) rfl rfl rfl rfl rfl rfl
  | true =>
    cases ho : onceX b 2 s with
    | true =>
      have eO : duO b = true := by unfold duO; rw [eN, eL, hf, hs, ho]; rfl
      have eU : duL b = ngL n l := by unfold duL; rw [if_pos eO, eN, eL]
      rw [eU]
      repeat' first | ((with_reducible show aol _ _ _ _ _); first | (refine aol_guard_f (by rfl) ?_ ?_; (focus (simp only [go_sem]; done))) | (refine aol_guard_un (by rfl) ?_ ?_; (focus (simp only [go_sem]; done)))) | ((with_reducible refine hK _ ?_); clear hK K; try simp only [nxA, nxB]) | (with_reducible refine awp_seq fun K hK => ?_) | ((first | ((with_reducible show aol _ _ _ _ _); try first | (refine aol_guard_t (by rfl) ?_ ?_; (focus (simp only [go_sem]; done))) | (refine aol_guard_b (by rfl) (by rfl) (fun h => ?_) (fun h => ?_) <;> (try simp only [hsA, hsB, hsC, hsD, hsE, List.all_cons, List.all_nil, ne_eq, reduceCtorEq] at h))) | ((with_reducible show Awp _ _ (Code.region _ _ _) _ _); first | refine awp_regK (by repeat constructor) (fun K hK => ?_) | (refine awp_drwK (by kernel_rfl) (by repeat constructor) (fun K hK => ?_)))) <;> simp (config := { maxSteps := 2000000 }) (disch := omega) only [go_sem, ↓reduceIte, Nat.reduceEqDiff, Nat.reduceAdd, Nat.reduceLT, Nat.reduceLeDiff, Nat.reduceSub, tNew, tL2A, pr_eta, hn, hl, hs, tNg, hf, tOnc, ho, or0_t, orE_t]) | ((with_reducible show Awp _ _ (Code.cond _ _ _) _ _); refine awp_cond rfl (fun h => ?_) (fun h => ?_) <;> (try simp only [hsA, hsB, hsC, hsD, hsE, List.all_cons, List.all_nil, ne_eq, reduceCtorEq] at h)) | ((with_reducible first | refine awp_skip ?_ | refine awp_ret ?_); simp only [nxA, nxB]) | (with_reducible refine awp_block ?_) | ((with_reducible refine awp_exit ?_); simp only [nxA, ne_eq, not_false_eq_true, Nat.reduceEqDiff, reduceCtorEq]; try ((first | refine hK _ ?_ | (clear hK K; first | refine hK _ ?_ | (clear hK K; first | refine hK _ ?_ | (clear hK K; refine hK _ ?_)))); clear hK K)) | (with_reducible first | apply And.intro | exact True.intro) | ((with_reducible first | show List.all _ _ = true | show lendOk _ _ = true); rfl) | omega | ((with_reducible first | show ¬ _ | show _ → _); intro h; first | contradiction | cases h; done | skip)
      all_goals (try (first | refine fin_keep ?_ | refine finm_keep ?_; repeat clear hK))
      exact fin_pair (d := tPair) (j := 4) rfl rfl rfl rfl rfl rfl
    | false =>
      have eO : ¬ duO b = true := by unfold duO; rw [eN, eL, hf, hs, ho]; decide
      have eU : duL b = l := by unfold duL; rw [if_neg eO, eL]
      rw [eU]
      repeat' first | ((with_reducible show aol _ _ _ _ _); first | (refine aol_guard_f (by rfl) ?_ ?_; (focus (simp only [go_sem]; done))) | (refine aol_guard_un (by rfl) ?_ ?_; (focus (simp only [go_sem]; done)))) | ((with_reducible refine hK _ ?_); clear hK K; try simp only [nxA, nxB]) | (with_reducible refine awp_seq fun K hK => ?_) | ((first | ((with_reducible show aol _ _ _ _ _); try first | (refine aol_guard_t (by rfl) ?_ ?_; (focus (simp only [go_sem]; done))) | (refine aol_guard_b (by rfl) (by rfl) (fun h => ?_) (fun h => ?_) <;> (try simp only [hsA, hsB, hsC, hsD, hsE, List.all_cons, List.all_nil, ne_eq, reduceCtorEq] at h))) | ((with_reducible show Awp _ _ (Code.region _ _ _) _ _); first | refine awp_regK (by repeat constructor) (fun K hK => ?_) | (refine awp_drwK (by kernel_rfl) (by repeat constructor) (fun K hK => ?_)))) <;> simp (config := { maxSteps := 2000000 }) (disch := omega) only [go_sem, ↓reduceIte, Nat.reduceEqDiff, Nat.reduceAdd, Nat.reduceLT, Nat.reduceLeDiff, Nat.reduceSub, tNew, tL2A, pr_eta, hn, hl, hs, tNg, hf, tOnc, ho, or0_t, orE_t]) | ((with_reducible show Awp _ _ (Code.cond _ _ _) _ _); refine awp_cond rfl (fun h => ?_) (fun h => ?_) <;> (try simp only [hsA, hsB, hsC, hsD, hsE, List.all_cons, List.all_nil, ne_eq, reduceCtorEq] at h)) | ((with_reducible first | refine awp_skip ?_ | refine awp_ret ?_); simp only [nxA, nxB]) | (with_reducible refine awp_block ?_) | ((with_reducible refine awp_exit ?_); simp only [nxA, ne_eq, not_false_eq_true, Nat.reduceEqDiff, reduceCtorEq]; try ((first | refine hK _ ?_ | (clear hK K; first | refine hK _ ?_ | (clear hK K; first | refine hK _ ?_ | (clear hK K; refine hK _ ?_)))); clear hK K)) | (with_reducible first | apply And.intro | exact True.intro) | ((with_reducible first | show List.all _ _ = true | show lendOk _ _ = true); rfl) | omega | ((with_reducible first | show ¬ _ | show _ → _); intro h; first | contradiction | cases h; done | skip)
      all_goals (try (first | refine fin_keep ?_ | refine finm_keep ?_; repeat clear hK))
      exact fin_pair (d := tPair) (j := 2) rfl rfl rfl rfl rfl rfl
def tDrPol : Tab
  | [.sl .u8 b] => some (b.length ≤ 1048576, .ag [.i (anN b), .own 0], [.row .i64 3 (anL b)])
  | _ => none
theorem drPol_ok : Fits Try.prog 88 tDrPol := by
  refine ⟨callable_of Try.func88 (by kernel_rfl) rfl, ?_⟩
  intro args p out Ho h hp
  unfold tDrPol at h
  split at h <;> cases h
  rename_i b
  refine ⟨acall_by (env_ok2 (env := []) (envM := [(131, tNew), (185, tL2A)]) (by simp) (by simp only [List.forall_mem_cons, List.not_mem_nil, false_implies, implies_true, and_true]; exact ⟨new_ok, l2A_ok⟩)) Try.func88 rfl rfl rfl rfl rfl ?_, rfl, rfl⟩
  intro hlen c hc hX
  simp only [lensOk, AV.lenOk, true_and, and_true] at hlen
  simp only [Try.ntmps88, Try.results88, List.length_cons, List.length_nil, List.replicate, List.cons_append, List.nil_append, Nat.reduceAdd, Nat.reduceSub]
  have hal := l2AL_len b (newV b)
  have fN : l2AN b (newV b) = anN b := rfl
  have fL : l2AL b (newV b) = anL b := rfl
  rw [fL] at hal
  repeat' first | ((with_reducible show aol _ _ _ _ _); first | (refine aol_guard_f (by rfl) ?_ ?_; (focus (simp only [go_sem]; done))) | (refine aol_guard_un (by rfl) ?_ ?_; (focus (simp only [go_sem]; done)))) | ((with_reducible refine hK _ ?_); clear hK K; try simp only [nxA, nxB]) | (with_reducible refine awp_seq fun K hK => ?_) | ((first | ((with_reducible show aol _ _ _ _ _); try first | (refine aol_guard_t (by rfl) ?_ ?_; (focus (simp only [go_sem]; done))) | (refine aol_guard_b (by rfl) (by rfl) (fun h => ?_) (fun h => ?_) <;> (try simp only [hsA, hsB, hsC, hsD, hsE, List.all_cons, List.all_nil, ne_eq, reduceCtorEq] at h))) | ((with_reducible show Awp _ _ (Code.region _ _ _) _ _); first | refine awp_regK (by repeat constructor) (fun K hK => ?_) | (refine awp_drwK (by kernel_rfl) (by repeat constructor) (fun K hK => ?_)))) <;> simp (config := { maxSteps := 2000000 }) (disch := omega) only [go_sem, ↓reduceIte, Nat.reduceEqDiff, Nat.reduceAdd, Nat.reduceLT, Nat.reduceLeDiff, Nat.reduceSub, tNew, tL2A, pr_eta, fN, fL]) | ((with_reducible show Awp _ _ (Code.cond _ _ _) _ _); refine awp_cond rfl (fun h => ?_) (fun h => ?_) <;> (try simp only [hsA, hsB, hsC, hsD, hsE, List.all_cons, List.all_nil, ne_eq, reduceCtorEq] at h)) | ((with_reducible first | refine awp_skip ?_ | refine awp_ret ?_); simp only [nxA, nxB]) | (with_reducible refine awp_block ?_) | ((with_reducible refine awp_exit ?_); simp only [nxA, ne_eq, not_false_eq_true, Nat.reduceEqDiff, reduceCtorEq]; try ((first | refine hK _ ?_ | (clear hK K; first | refine hK _ ?_ | (clear hK K; first | refine hK _ ?_ | (clear hK K; refine hK _ ?_)))); clear hK K)) | (with_reducible first | apply And.intro | exact True.intro) | ((with_reducible first | show List.all _ _ = true | show lendOk _ _ = true); rfl) | omega | ((with_reducible first | show ¬ _ | show _ → _); intro h; first | contradiction | cases h; done | skip)
  all_goals (try (first | refine fin_keep ?_ | refine finm_keep ?_; repeat clear hK))
  exact fin_pair (d := tPair) (j := 2) rfl rfl rfl rfl rfl rfl
end Go.Proofs.Ytjlpjkiadohkiaa
