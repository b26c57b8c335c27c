import Derived.Test.YtjlpjkiadohkiaaHs
import Derived.Test.YtjlpjkiadohkiaaT29
set_option linter.unusedSimpArgs false
set_option linter.unusedVariables false
set_option maxHeartbeats 2000000
namespace Go.Proofs.Ytjlpjkiadohkiaa
open Go Go.Ab
attribute [local irreducible] aol
attribute [local irreducible] popN


def wV (x : List Int) (s : Nat) : Nat → Int
  | 0 => 0
  | k + 1 => wV x s k + if Nat.testBit s k then x.getD k 0 else 0
theorem wV_1 {x : List Int} {s k : Nat} (h : Nat.testBit s k = true) : wV x s (k + 1) = wV x s k + x.getD k 0 := by show wV x s k + (if _ then _ else _) = _; rw [if_pos h]
theorem wV_0 {x : List Int} {s k : Nat} (h : Nat.testBit s k = false) : wV x s (k + 1) = wV x s k := by show wV x s k + (if _ then _ else _) = _; rw [if_neg (by rw [h]; decide), Int.add_zero]
theorem wV_or {w : List Int} {s e : Nat} (h : Nat.testBit s e = false) : ∀ {n : Nat}, wV w (s ||| 2 ^ e) n = wV w s n + if e < n then w.getD e 0 else 0
  | 0 => by simp [wV]
  | n + 1 => by
    have ih := wV_or (w := w) h (n := n)
    unfold wV
    rw [ih, Nat.testBit_or, Nat.testBit_two_pow]
    by_cases e1 : e = n
    · subst e1
      rw [h]
      simp [show ¬ e < e by omega]
    · by_cases e2 : e < n
      · simp [e1, e2, show e < n + 1 by omega]; omega
      · simp [e1, e2, show ¬ e < n + 1 by omega]
theorem finm_pairb {C : Cfg} {t u : Tmp} {b : Nat} {T T' : TypeId} {k : IntKind} {E : TypeId} {l : List Int} {n : Int} {x : Bool} {d : TD} {s : ASt} (hT : C.Γ T = some d) (ha : d.agg = true) (hs : d.size = 2) (h : nth s.fr t = .bp b 0)
    (hb : s.hp[b]? = some (.box T' [.i n, .own 0])) (hh : s.hp[0]? = some (.row k E l)) (hu : nth s.fr u = .b x) : FinSM 1 C [.cell t T, .tmp u] (.tu [.ag [.i n, .own 0], .b x]) [.row k E l] s := by
  exact ⟨s, Wk.refl s, (0 + 2 ≤ 2) ∧ True ∧ True, .tu [.ag [.i n, .own 0], .b x], by simp [resV, resVs, resV1, aLoad, hT, ha, hs, h, hb, hu], ⟨by omega, trivial, trivial⟩, [0], by simp, rfl, rfl, by simp [hh, AO.ren]⟩
theorem finm_pairb_nl {C : Cfg} {t u : Tmp} {b : Nat} {T T' : TypeId} {k : IntKind} {E : TypeId} {l : List Int} {n : Int} {x : Bool} {d : TD} {s : ASt} (hT : C.Γ T = some d) (ha : d.agg = true) (hs : d.size = 2) (h : nth s.fr t = .bp b 0)
    (hb : s.hp[b]? = some (.box T' [.i n, .nl])) (hh : s.hp[0]? = some (.row k E l)) (hu : nth s.fr u = .b x) : FinSM 1 C [.cell t T, .tmp u] (.tu [.ag [.i n, .nl], .b x]) [.row k E l] s := by
  exact ⟨s, Wk.refl s, (0 + 2 ≤ 2) ∧ True ∧ True, .tu [.ag [.i n, .nl], .b x], by simp [resV, resVs, resV1, aLoad, hT, ha, hs, h, hb, hu], ⟨by omega, trivial, trivial⟩, [0], by simp, rfl, rfl, by simp [hh, AO.ren]⟩
def tMade : MTab
  | [.i n, .own 0], [.row .i64 E l] => if fnV n l = true then some (True, .tu [.ag [.i n, .own 0], .b true], [.row .i64 E l]) else some (True, .tu [.ag [.i 0, .nl], .b false], [.row .i64 E l])
  | _, _ => none
theorem tMade_yes {n : Int} {l : List Int} {E : TypeId} (h : fnV n l = true) : tMade [.i n, .own 0] [.row .i64 E l] = some (True, .tu [.ag [.i n, .own 0], .b true], [.row .i64 E l]) := by
  exact if_pos h
theorem tMade_no {n : Int} {l : List Int} {E : TypeId} (h : fnV n l = false) : tMade [.i n, .own 0] [.row .i64 E l] = some (True, .tu [.ag [.i 0, .nl], .b false], [.row .i64 E l]) := by
  exact if_neg (by rw [h]; decide)
theorem made_ok : FitsM Try.prog 150 tMade := by
  refine ⟨?_⟩
  intro args L p out Ho h hp
  unfold tMade at h
  split at h
  · rename_i n E l
    split at h <;> cases h <;> rename_i hfn
    · refine mok_by (env_ok (env := [(163, tIsFn)]) (by simp only [List.forall_mem_cons, List.not_mem_nil, false_implies, implies_true, and_true]; exact specIsFn_ok)) (callable_of Try.func150 (by kernel_rfl) rfl) Try.func150 rfl rfl rfl rfl rfl (by simp) ?_
      intro hlen c hc hX
      simp only [Try.ntmps150, Try.results150, List.length_cons, List.length_nil, List.replicate, List.cons_append, List.nil_append, Nat.reduceAdd, Nat.reduceSub]
      repeat' first | ((with_reducible show aol _ _ _ _ _); first | (refine aol_guard_f (by rfl) ?_ ?_; (focus (simp only [go_sem]; done))) | (refine aol_guard_un (by rfl) ?_ ?_; (focus (simp only [go_sem]; done))) | ((first | (refine aol_guard_t (by rfl) ?_ ?_; (focus (simp only [go_sem]; done))) | (refine aol_guard_b (by rfl) (by rfl) (fun h => ?_) (fun h => ?_) <;> (try simp only [hsA, hsB, hsC, hsD, List.all_cons, List.all_nil, ne_eq, reduceCtorEq, inR_iff, inR_not, isSet_iff, isSet_not] at h))) <;> simp (config := { maxSteps := 2000000 }) (disch := omega) only [go_sem, ↓reduceIte, Nat.reduceEqDiff, Nat.reduceAdd, Nat.reduceLT, Nat.reduceLeDiff, Nat.reduceSub, tIsFn, hfn]) | simp (config := { maxSteps := 2000000 }) (disch := omega) only [go_sem, ↓reduceIte, Nat.reduceEqDiff, Nat.reduceAdd, Nat.reduceLT, Nat.reduceLeDiff, Nat.reduceSub, tIsFn, hfn]) | ((with_reducible refine hK _ ?_); clear hK K; try simp only [thn_n, blk_n, fin_n, finm_n]) | (with_reducible refine awp_seq fun K hK => ?_) | ((with_reducible show Awp _ _ (Code.region _ _ _) _ _); (first | refine awp_regK (by repeat constructor) (fun K hK => ?_) | (refine awp_drwK (by kernel_rfl) (by repeat constructor) (fun K hK => ?_))); simp (config := { maxSteps := 2000000 }) (disch := omega) only [go_sem, ↓reduceIte, Nat.reduceEqDiff, Nat.reduceAdd, Nat.reduceLT, Nat.reduceLeDiff, Nat.reduceSub, tIsFn, hfn]) | ((with_reducible show Awp _ _ (Code.cond _ _ _) _ _); refine awp_cond rfl (fun h => ?_) (fun h => ?_) <;> (try simp only [hsA, hsB, hsC, hsD, List.all_cons, List.all_nil, ne_eq, reduceCtorEq, inR_iff, inR_not, isSet_iff, isSet_not] at h)) | ((with_reducible refine awp_skip ?_); simp only [thn_n, blk_n, fin_n, finm_n]) | ((with_reducible refine awp_ret ?_); simp only [thn_r, blk_r, fin_r, finm_r]) | (with_reducible refine awp_block ?_) | ((with_reducible refine awp_exit ?_); simp only [thn_e, blk_e, blk_x, blk_n, thn_n, ne_eq, not_false_eq_true, Nat.reduceEqDiff, reduceCtorEq]; first | (refine hK _ ?_; clear hK K) | (clear hK K; refine hK _ ?_; clear hK K) | (clear hK K; clear hK K; refine hK _ ?_; clear hK K) | (clear hK K; clear hK K; clear hK K; refine hK _ ?_; clear hK K) | skip) | (with_reducible apply And.intro) | (with_reducible exact True.intro) | ((with_reducible show List.all _ _ = true); rfl) | ((with_reducible show lendOk _ _ = true); rfl) | omega | ((first | (with_reducible show ¬ _) | (with_reducible show _ → _)); intro h; first | contradiction | cases h; done | skip)
      all_goals (try (first | refine fin_keep ?_ | refine finm_keep ?_; repeat clear hK))
      exact finm_pairb (d := tPair) rfl rfl rfl rfl rfl rfl rfl
    · have hfn' : fnV n l = false := Bool.eq_false_iff.2 hfn
      refine mok_by (env_ok (env := [(163, tIsFn)]) (by simp only [List.forall_mem_cons, List.not_mem_nil, false_implies, implies_true, and_true]; exact specIsFn_ok)) (callable_of Try.func150 (by kernel_rfl) rfl) Try.func150 rfl rfl rfl rfl rfl (by simp) ?_
      intro hlen c hc hX
      simp only [Try.ntmps150, Try.results150, List.length_cons, List.length_nil, List.replicate, List.cons_append, List.nil_append, Nat.reduceAdd, Nat.reduceSub]
      repeat' first | ((with_reducible show aol _ _ _ _ _); first | (refine aol_guard_f (by rfl) ?_ ?_; (focus (simp only [go_sem]; done))) | (refine aol_guard_un (by rfl) ?_ ?_; (focus (simp only [go_sem]; done))) | ((first | (refine aol_guard_t (by rfl) ?_ ?_; (focus (simp only [go_sem]; done))) | (refine aol_guard_b (by rfl) (by rfl) (fun h => ?_) (fun h => ?_) <;> (try simp only [hsA, hsB, hsC, hsD, List.all_cons, List.all_nil, ne_eq, reduceCtorEq, inR_iff, inR_not, isSet_iff, isSet_not] at h))) <;> simp (config := { maxSteps := 2000000 }) (disch := omega) only [go_sem, ↓reduceIte, Nat.reduceEqDiff, Nat.reduceAdd, Nat.reduceLT, Nat.reduceLeDiff, Nat.reduceSub, tIsFn, hfn']) | simp (config := { maxSteps := 2000000 }) (disch := omega) only [go_sem, ↓reduceIte, Nat.reduceEqDiff, Nat.reduceAdd, Nat.reduceLT, Nat.reduceLeDiff, Nat.reduceSub, tIsFn, hfn']) | ((with_reducible refine hK _ ?_); clear hK K; try simp only [thn_n, blk_n, fin_n, finm_n]) | (with_reducible refine awp_seq fun K hK => ?_) | ((with_reducible show Awp _ _ (Code.region _ _ _) _ _); (first | refine awp_regK (by repeat constructor) (fun K hK => ?_) | (refine awp_drwK (by kernel_rfl) (by repeat constructor) (fun K hK => ?_))); simp (config := { maxSteps := 2000000 }) (disch := omega) only [go_sem, ↓reduceIte, Nat.reduceEqDiff, Nat.reduceAdd, Nat.reduceLT, Nat.reduceLeDiff, Nat.reduceSub, tIsFn, hfn']) | ((with_reducible show Awp _ _ (Code.cond _ _ _) _ _); refine awp_cond rfl (fun h => ?_) (fun h => ?_) <;> (try simp only [hsA, hsB, hsC, hsD, List.all_cons, List.all_nil, ne_eq, reduceCtorEq, inR_iff, inR_not, isSet_iff, isSet_not] at h)) | ((with_reducible refine awp_skip ?_); simp only [thn_n, blk_n, fin_n, finm_n]) | ((with_reducible refine awp_ret ?_); simp only [thn_r, blk_r, fin_r, finm_r]) | (with_reducible refine awp_block ?_) | ((with_reducible refine awp_exit ?_); simp only [thn_e, blk_e, blk_x, blk_n, thn_n, ne_eq, not_false_eq_true, Nat.reduceEqDiff, reduceCtorEq]; first | (refine hK _ ?_; clear hK K) | (clear hK K; refine hK _ ?_; clear hK K) | (clear hK K; clear hK K; refine hK _ ?_; clear hK K) | (clear hK K; clear hK K; clear hK K; refine hK _ ?_; clear hK K) | skip) | (with_reducible apply And.intro) | (with_reducible exact True.intro) | ((with_reducible show List.all _ _ = true); rfl) | ((with_reducible show lendOk _ _ = true); rfl) | omega | ((first | (with_reducible show ¬ _) | (with_reducible show _ → _)); intro h; first | contradiction | cases h; done | skip)
      all_goals (try (first | refine fin_keep ?_ | refine finm_keep ?_; repeat clear hK))
      exact finm_pairb_nl (d := tPair) rfl rfl rfl rfl rfl rfl rfl
  · cases h

theorem nfull_all : ((List.range 7).all fun n => (List.range 64).all fun s => !decide (s < 2 ^ n) || decide (nandn (2 ^ n - 1) s = 2 ^ n - 1 - s)) = true := by kernel_rfl
theorem nfull {n s : Nat} (hn : n < 7) (hs : s < 2 ^ n) : nandn (2 ^ n - 1) s = 2 ^ n - 1 - s := by
  have h64 : 2 ^ n ≤ 64 := Nat.le_trans (Nat.pow_le_pow_right (by omega) (show n ≤ 6 by omega)) (by decide)
  have := List.all_eq_true.1 (List.all_eq_true.1 nfull_all n (List.mem_range.2 hn)) s (List.mem_range.2 (by omega))
  rw [decide_eq_true hs, Bool.not_true, Bool.false_or, decide_eq_true_eq] at this
  exact this
end Go.Proofs.Ytjlpjkiadohkiaa
