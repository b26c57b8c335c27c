import Derived.Test.YthoionlldmfpiaaGreatT13
import Derived.Test.YthoionlldmfpiaaGreatT19
import Derived.Test.YthoionlldmfpiaaGreatHs
import Derived.Test.YthoionlldmfpiaaGreatT15
set_option linter.unusedSimpArgs false
set_option linter.unusedVariables false
set_option maxHeartbeats 2000000
namespace Go.Proofs.YthoionlldmfpiaaGreat
open Go Go.Ab
attribute [local irreducible] aol
attribute [local irreducible] popN
theorem mat_fn {n : Int} {l : List Int} (h : matV n l = true) : fnV n l = true := by
  unfold matV at h; rw [Bool.and_eq_true] at h; exact pol_fn h.1
theorem isSet_in {n s : Int} (h : 0 ≤ s ∧ s < 2 ^ n.toNat) : isSet n s = true := by rw [isSet_iff]; exact h
theorem isSet_out {n s : Int} (h : ¬ (0 ≤ s ∧ s < 2 ^ n.toNat)) : isSet n s = false := by rw [isSet_not]; exact h
theorem set_fn {n s : Int} {l : List Int} (h : fnV n l = true ∧ 0 ≤ s ∧ s < 2 ^ n.toNat) : s < l.length ∧ s < 64 := by
  have hl := fnV_len h.1
  have hf := (fnV_iff.1 h.1).1
  have hp6 : 2 ^ n.toNat ≤ 32 := Nat.le_trans (Nat.pow_le_pow_right (by omega) (show n.toNat ≤ 5 by omega)) (by decide)
  have hpw := pow_nat n.toNat
  omega
def freeV (l : List Int) (s : Int) : Bool := decide (l.getD s.toNat 0 = (popN s.toNat : Int))
def tFree : Tab
  | [.ag [.i n, .sl .i64 l], .i s] => some (fnV n l = true ∧ (0 ≤ s ∧ s < 2 ^ n.toNat), .b (freeV l s), [])
  | _ => none
theorem free_ok : Fits Tryz.prog 34 tFree := by
  refine ⟨callable_of Tryz.func34 (by kernel_rfl) rfl, ?_⟩
  intro args p out Ho h hp
  unfold tFree at h
  split at h <;> cases h
  rename_i n l s
  refine ⟨acall_by (env_ok (env := [(47, tSize)]) (by simp only [fmA, and_true]; exact sizeOf_ok)) Tryz.func34 rfl rfl rfl rfl rfl ?_, rfl, rfl⟩
  intro hlen c hc hX
  simp only [lensOk, AV.lenOk, true_and, and_true] at hlen
  simp only [Tryz.ntmps34, Tryz.results34, lsA, List.replicate, Nat.reduceAdd, Nat.reduceSub]
  obtain ⟨hf, hs⟩ := hp
  have hlen2 := fnV_len hf
  rw [fnV_iff] at hf
  have hpw := pow_nat n.toNat
  have hp6 : 2 ^ n.toNat ≤ 64 := Nat.le_trans (Nat.pow_le_pow_right (by omega) (show n.toNat ≤ 6 by omega)) (by decide)
  repeat' first | ((with_reducible show aol _ _ _ _ _); first|(refine gF (by rfl) ?_ ?_; focus simp only [go_sem]; done)|(refine gU (by rfl) ?_ ?_; focus simp only [go_sem]; done))|((with_reducible refine hK _ ?_); clear hK K; try simp only [nx])|(with_reducible first|refine aS fun K hK => ?_|refine aB ?_|apply And.intro|exact True.intro)|((first|((with_reducible show aol _ _ _ _ _); try first|(refine gT (by rfl) ?_ ?_; focus simp only [go_sem]; done)|refine gB (by rfl) (by rfl) (fun h => ?_) (fun h => ?_) <;> (try simp only [hsX, reduceCtorEq] at h))|((with_reducible show Awp _ _ (Code.region _ _ _) _ _); first|refine rK (by repeat constructor) (fun K hK => ?_)|(refine dK (by kernel_rfl) (by repeat constructor) (fun K hK => ?_)))) <;> simp (maxSteps := 2000000) (disch := omega) only [go_sem, ↓reduceIte, Nat.reduceEqDiff, Nat.reduceAdd, Nat.reduceLT, Nat.reduceLeDiff, Nat.reduceSub, tSize])|((with_reducible show Awp _ _ (Code.cond _ _ _) _ _); refine aC rfl (fun h => ?_) (fun h => ?_) <;> (try simp only [hsX, reduceCtorEq] at h))|((with_reducible first|refine aK ?_|refine aR ?_); simp only [nx])|((with_reducible refine aE ?_); simp only [nx, ne_eq, not_false_eq_true, Nat.reduceEqDiff, reduceCtorEq]; try ((repeat ((fail_if_success refine hK _ ?_); clear hK K)); refine hK _ ?_; clear hK K))|((with_reducible first|show List.all _ _ = true|show lendOk _ _ = true); rfl)|omega|((with_reducible first|show ¬ _|show _ → _); intro h; first|contradiction|cases h; done|skip)
  all_goals (try (first|refine fK ?_|refine fM ?_; repeat clear hK))
  refine fin_tmp rfl ?_; rfl
def tIn5 : Tab
  | [.ag [.i n, .sl .i64 l], .i s] => some (True, .b (fnV n l && isSet n s), [])
  | _ => none
theorem in5_ok : Fits Tryz.prog 68 tIn5 := by
  refine ⟨callable_of Tryz.func68 (by kernel_rfl) rfl, ?_⟩
  intro args p out Ho h hp
  unfold tIn5 at h
  split at h <;> cases h
  rename_i n l s
  refine ⟨acall_by (env_ok (env := [(80, tIsFn), (56, tFull), (55, tWithin)]) (by simp only [fmA, and_true]; exact ⟨specIsFn_ok, full_ok, specIn_ok⟩)) Tryz.func68 rfl rfl rfl rfl rfl ?_, rfl, rfl⟩
  intro hlen c hc hX
  simp only [lensOk, AV.lenOk, true_and, and_true] at hlen
  simp only [Tryz.ntmps68, Tryz.results68, lsA, List.replicate, Nat.reduceAdd, Nat.reduceSub]
  repeat' first | ((with_reducible show aol _ _ _ _ _); first|(refine gF (by rfl) ?_ ?_; focus simp only [go_sem]; done)|(refine gU (by rfl) ?_ ?_; focus simp only [go_sem]; done))|((with_reducible refine hK _ ?_); clear hK K; try simp only [nx])|(with_reducible first|refine aS fun K hK => ?_|refine aB ?_|apply And.intro|exact True.intro)|((first|((with_reducible show aol _ _ _ _ _); try first|(refine gT (by rfl) ?_ ?_; focus simp only [go_sem]; done)|refine gB (by rfl) (by rfl) (fun h => ?_) (fun h => ?_) <;> (try simp only [hsX, reduceCtorEq, fnV_iff] at h))|((with_reducible show Awp _ _ (Code.region _ _ _) _ _); first|refine rK (by repeat constructor) (fun K hK => ?_)|(refine dK (by kernel_rfl) (by repeat constructor) (fun K hK => ?_)))) <;> simp (maxSteps := 2000000) (disch := omega) only [go_sem, ↓reduceIte, Nat.reduceEqDiff, Nat.reduceAdd, Nat.reduceLT, Nat.reduceLeDiff, Nat.reduceSub, tIsFn, tFull, tWithin, inR_isSet])|((with_reducible show Awp _ _ (Code.cond _ _ _) _ _); refine aC rfl (fun h => ?_) (fun h => ?_) <;> (try simp only [hsX, reduceCtorEq, fnV_iff] at h))|((with_reducible first|refine aK ?_|refine aR ?_); simp only [nx])|((with_reducible refine aE ?_); simp only [nx, ne_eq, not_false_eq_true, Nat.reduceEqDiff, reduceCtorEq]; try ((repeat ((fail_if_success refine hK _ ?_); clear hK K)); refine hK _ ?_; clear hK K))|((with_reducible first|show List.all _ _ = true|show lendOk _ _ = true); rfl)|omega|((with_reducible first|show ¬ _|show _ → _); intro h; first|contradiction|cases h; done|skip)
  all_goals (try (first|refine fK ?_|refine fM ?_; repeat clear hK))
  · refine fin_tmp rfl ?_; simp only [nth_zero, nth_succ]; rw [fnV_iff.2 h, Bool.true_and]
  · refine fin_tmp rfl ?_; simp only [nth_zero, nth_succ]; rw [h, Bool.false_and]
def indV (n : Int) (l : List Int) (s : Int) : Bool := matV n l && (isSet n s && freeV l s)
def tInd : Tab
  | [.ag [.i n, .sl .i64 l], .i s] => some (True, .b (indV n l s), [])
  | _ => none
theorem implInd_ok : Fits Tryz.prog 18 tInd := by
  refine ⟨callable_of Tryz.func18 (by kernel_rfl) rfl, ?_⟩
  intro args p out Ho h hp
  unfold tInd at h
  split at h <;> cases h
  rename_i n l s
  refine ⟨acall_by (env_ok (env := [(9, tIsMat), (53, tIsSetOf), (34, tFree)]) (by simp only [fmA, and_true]; exact ⟨implIsMat_ok, isSetOf_ok, free_ok⟩)) Tryz.func18 rfl rfl rfl rfl rfl ?_, rfl, rfl⟩
  intro hlen c hc hX
  simp only [lensOk, AV.lenOk, true_and, and_true] at hlen
  simp only [Tryz.ntmps18, Tryz.results18, lsA, List.replicate, Nat.reduceAdd, Nat.reduceSub]
  have hn := fun h : matV n l = true => (fnV_iff.1 (mat_fn h)).1
  have hm := fun h : matV n l = true => mat_fn h
  repeat' first | ((with_reducible show aol _ _ _ _ _); first|(refine gF (by rfl) ?_ ?_; focus simp only [go_sem]; done)|(refine gU (by rfl) ?_ ?_; focus simp only [go_sem]; done))|((with_reducible refine hK _ ?_); clear hK K; try simp only [nx])|(with_reducible first|refine aS fun K hK => ?_|refine aB ?_|apply And.intro|exact True.intro)|((first|((with_reducible show aol _ _ _ _ _); try first|(refine gT (by rfl) ?_ ?_; focus simp only [go_sem]; done)|refine gB (by rfl) (by rfl) (fun h => ?_) (fun h => ?_) <;> (try simp only [hsX, reduceCtorEq] at h))|((with_reducible show Awp _ _ (Code.region _ _ _) _ _); first|refine rK (by repeat constructor) (fun K hK => ?_)|(refine dK (by kernel_rfl) (by repeat constructor) (fun K hK => ?_)))) <;> simp (maxSteps := 2000000) (disch := omega) only [go_sem, ↓reduceIte, Nat.reduceEqDiff, Nat.reduceAdd, Nat.reduceLT, Nat.reduceLeDiff, Nat.reduceSub, tIsMat, tIsSetOf, tFree])|((with_reducible show Awp _ _ (Code.cond _ _ _) _ _); refine aC rfl (fun h => ?_) (fun h => ?_) <;> (try simp only [hsX, reduceCtorEq] at h))|((with_reducible first|refine aK ?_|refine aR ?_); simp only [nx])|((with_reducible refine aE ?_); simp only [nx, ne_eq, not_false_eq_true, Nat.reduceEqDiff, reduceCtorEq]; try ((repeat ((fail_if_success refine hK _ ?_); clear hK K)); refine hK _ ?_; clear hK K))|((with_reducible first|show List.all _ _ = true|show lendOk _ _ = true); rfl)|omega|((with_reducible first|show ¬ _|show _ → _); intro h; first|contradiction|cases h; done|skip)
  all_goals (try (first|refine fK ?_|refine fM ?_; repeat clear hK))
  · exact (hn h).1
  · have := hn h; omega
  · apply hm; assumption
  · rename_i h1; refine fin_tmp rfl ?_; simp only [nth_zero, nth_succ]; rw [indV, h1, isSet_in h]; rfl
  · rename_i h1; refine fin_tmp rfl ?_; simp only [nth_zero, nth_succ]; rw [indV, h1, isSet_out h]; rfl
  · refine fin_tmp rfl ?_; simp only [nth_zero, nth_succ]; rw [indV, h]; rfl
theorem specInd_ok : Fits Tryz.prog 29 tInd := by
  refine ⟨callable_of Tryz.func29 (by kernel_rfl) rfl, ?_⟩
  intro args p out Ho h hp
  unfold tInd at h
  split at h <;> cases h
  rename_i n l s
  refine ⟨acall_by (env_ok (env := [(68, tIn5), (36, tIsMat), (37, tSize2)]) (by simp only [fmA, and_true]; exact ⟨in5_ok, specIsMat_ok, size2_ok⟩)) Tryz.func29 rfl rfl rfl rfl rfl ?_, rfl, rfl⟩
  intro hlen c hc hX
  simp only [lensOk, AV.lenOk, true_and, and_true] at hlen
  simp only [Tryz.ntmps29, Tryz.results29, lsA, List.replicate, Nat.reduceAdd, Nat.reduceSub]
  repeat' first | ((with_reducible show aol _ _ _ _ _); first|(refine gF (by rfl) ?_ ?_; focus simp only [go_sem]; done)|(refine gU (by rfl) ?_ ?_; focus simp only [go_sem]; done))|((with_reducible refine hK _ ?_); clear hK K; try simp only [nx])|(with_reducible first|refine aS fun K hK => ?_|refine aB ?_|apply And.intro|exact True.intro)|((first|((with_reducible show aol _ _ _ _ _); try first|(refine gT (by rfl) ?_ ?_; focus simp only [go_sem]; done)|refine gB (by rfl) (by rfl) (fun h => ?_) (fun h => ?_) <;> (try simp only [hsX, reduceCtorEq] at h))|((with_reducible show Awp _ _ (Code.region _ _ _) _ _); first|refine rK (by repeat constructor) (fun K hK => ?_)|(refine dK (by kernel_rfl) (by repeat constructor) (fun K hK => ?_)))) <;> simp (maxSteps := 2000000) (disch := omega) only [go_sem, ↓reduceIte, Nat.reduceEqDiff, Nat.reduceAdd, Nat.reduceLT, Nat.reduceLeDiff, Nat.reduceSub, tIn5, tIsMat, tSize2])|((with_reducible show Awp _ _ (Code.cond _ _ _) _ _); refine aC rfl (fun h => ?_) (fun h => ?_) <;> (try simp only [hsX, reduceCtorEq] at h))|((with_reducible first|refine aK ?_|refine aR ?_); simp only [nx])|((with_reducible refine aE ?_); simp only [nx, ne_eq, not_false_eq_true, Nat.reduceEqDiff, reduceCtorEq]; try ((repeat ((fail_if_success refine hK _ ?_); clear hK K)); refine hK _ ?_; clear hK K))|((with_reducible first|show List.all _ _ = true|show lendOk _ _ = true); rfl)|omega|((with_reducible first|show ¬ _|show _ → _); intro h; first|contradiction|cases h; done|skip)
  all_goals (try (first|refine fK ?_|refine fM ?_; repeat clear hK))
  · rename_i h1; have := set_fn h1; omega
  · rename_i h1; have := set_fn h1; omega
  · rename_i h1; refine fin_tmp rfl ?_; simp only [nth_zero, nth_succ]; rw [indV, h, isSet_in h1.2]; rfl
  · refine fin_tmp rfl ?_; simp only [nth_zero, nth_succ]; rw [indV, h]; rfl
  · refine fin_tmp rfl ?_; simp only [nth_zero, nth_succ]
    rcases h with h | h
    · rw [indV, Bool.eq_false_iff (b := matV n l) |>.2 fun h2 => by rw [mat_fn h2] at h; cases h]; rfl
    · rw [indV, isSet_out h, Bool.false_and, Bool.and_false]
end Go.Proofs.YthoionlldmfpiaaGreat
namespace Go.Proofs.YthoionlldmfpiaaGreat
open Go Go.Ab
attribute [local irreducible] aol
theorem iandn_zero' {x s : Nat} (hx : x < 64) (hs : s < 64) : iandn (x : Int) (s : Int) = 0 ↔ iand (x : Int) (s : Int) = x := by
  rw [iandn_nat (by omega) (by omega), iand_nat (by omega) (by omega), Int.natCast_inj, ← nandn_zero]; omega
def splT (l l' : List Int) (s x : Nat) : Int := l.getD x 0 + l'.getD ((s : Int) - (x : Int)).toNat 0
def splS (l l' : List Int) (s b x : Nat) : Nat := if iand (x : Int) (s : Int) = x ∧ splT l l' s x < splT l l' s b then x else b
def splV (l l' : List Int) (s : Nat) : Nat → Nat
  | 0 => 0
  | k + 1 => splS l l' s (splV l l' s k) (k + 1)
theorem splS_le {l l' : List Int} {s b x : Nat} (h : b ≤ x) : splS l l' s b x ≤ x := by unfold splS; split <;> omega
theorem splV_le (l l' : List Int) (s : Nat) : ∀ k, splV l l' s k ≤ k
  | 0 => Nat.le_refl _
  | k + 1 => splS_le (Nat.le_succ_of_le (splV_le l l' s k))
theorem splV_yes {l l' : List Int} {s k : Nat} (h0 : 1 ≤ k) (h1 : iand (k : Int) (s : Int) = k) (h2 : l.getD k 0 + l'.getD ((s : Int) - (k : Int)).toNat 0 < splT l l' s (splV l l' s (k - 1))) : splV l l' s k = k := by
  obtain ⟨k, rfl⟩ := Nat.exists_eq_add_of_le' h0
  exact if_pos ⟨h1, h2⟩
theorem splV_no {l l' : List Int} {s k : Nat} (h0 : 1 ≤ k) (h : ¬ iand (k : Int) (s : Int) = k ∨ splT l l' s (splV l l' s (k - 1)) ≤ l.getD k 0 + l'.getD ((s : Int) - (k : Int)).toNat 0) : splV l l' s k = splV l l' s (k - 1) := by
  obtain ⟨k, rfl⟩ := Nat.exists_eq_add_of_le' h0
  refine if_neg fun h' => ?_
  rcases h with h | h
  · exact h h'.1
  · exact absurd h'.2 (by show ¬ splT l l' s (k + 1) < _; unfold splT at h ⊢; exact Int.not_lt.2 h)
def tAllOf : Tab
  | [.ag [.i n, .sl .i64 _]] => some (0 ≤ n ∧ n ≤ 62, .i (2 ^ n.toNat - 1), [])
  | _ => none
theorem allOf_ok : Fits Tryz.prog 35 tAllOf := by
  refine ⟨callable_of Tryz.func35 (by kernel_rfl) rfl, ?_⟩
  intro args p out Ho h hp
  unfold tAllOf at h
  split at h <;> cases h
  rename_i n l
  refine ⟨acall_by (env_ok (env := []) (by simp)) Tryz.func35 rfl rfl rfl rfl rfl ?_, rfl, rfl⟩
  intro hlen c hc hX
  simp only [lensOk, AV.lenOk, true_and, and_true] at hlen
  simp only [Tryz.ntmps35, Tryz.results35, lsA, List.replicate, Nat.reduceAdd, Nat.reduceSub]
  have hs := ishl_one hp.1 hp.2
  have hf := full_lt hp.1 hp.2
  have hu := u64_id hp.1 (by omega)
  repeat' first | ((with_reducible show aol _ _ _ _ _); first|(refine gF (by rfl) ?_ ?_; focus simp only [go_sem]; done)|(refine gU (by rfl) ?_ ?_; focus simp only [go_sem]; done))|((with_reducible refine hK _ ?_); clear hK K; try simp only [nx])|(with_reducible first|refine aS fun K hK => ?_|refine aB ?_|apply And.intro|exact True.intro)|((first|((with_reducible show aol _ _ _ _ _); try first|(refine gT (by rfl) ?_ ?_; focus simp only [go_sem]; done)|refine gB (by rfl) (by rfl) (fun h => ?_) (fun h => ?_) <;> (try simp only [hsX, reduceCtorEq] at h))|((with_reducible show Awp _ _ (Code.region _ _ _) _ _); first|refine rK (by repeat constructor) (fun K hK => ?_)|(refine dK (by kernel_rfl) (by repeat constructor) (fun K hK => ?_)))) <;> simp (maxSteps := 2000000) (disch := omega) only [go_sem, ↓reduceIte, Nat.reduceEqDiff, Nat.reduceAdd, Nat.reduceLT, Nat.reduceLeDiff, Nat.reduceSub, hs, hu])|((with_reducible show Awp _ _ (Code.cond _ _ _) _ _); refine aC rfl (fun h => ?_) (fun h => ?_) <;> (try simp only [hsX, reduceCtorEq] at h))|((with_reducible first|refine aK ?_|refine aR ?_); simp only [nx])|((with_reducible refine aE ?_); simp only [nx, ne_eq, not_false_eq_true, Nat.reduceEqDiff, reduceCtorEq]; try ((repeat ((fail_if_success refine hK _ ?_); clear hK K)); refine hK _ ?_; clear hK K))|((with_reducible first|show List.all _ _ = true|show lendOk _ _ = true); rfl)|omega|((with_reducible first|show ¬ _|show _ → _); intro h; first|contradiction|cases h; done|skip)
  all_goals (try (first|refine fK ?_|refine fM ?_; repeat clear hK))
  refine fin_tmp rfl ?_; rfl
def splPre (n : Int) (l : List Int) (n' : Int) (l' : List Int) (s : Int) : Prop := fnV n l = true ∧ fnV n' l' = true ∧ n' = n ∧ (0 ≤ s ∧ s < 2 ^ n.toNat)
def tSplit2 : Tab
  | [.ag [.i n, .sl .i64 l], .ag [.i n', .sl .i64 l'], .i s] => some (splPre n l n' l' s, .i (splV l l' s.toNat s.toNat), [])
  | _ => none
theorem split2_ok : Fits Tryz.prog 102 tSplit2 := by
  refine ⟨callable_of Tryz.func102 (by kernel_rfl) rfl, ?_⟩
  intro args p out Ho h hp
  unfold tSplit2 at h
  split at h <;> cases h
  rename_i n l n' l' s
  refine ⟨acall_by (env_ok (env := []) (by simp)) Tryz.func102 rfl rfl rfl rfl rfl ?_, rfl, rfl⟩
  intro hlen c hc hX
  simp only [lensOk, AV.lenOk, true_and, and_true] at hlen
  simp only [Tryz.ntmps102, Tryz.results102, lsA, List.replicate, Nat.reduceAdd, Nat.reduceSub]
  obtain ⟨hf, hf', rfl, hs⟩ := hp
  obtain ⟨s, rfl⟩ := Int.eq_ofNat_of_zero_le hs.1
  have hs' := set_fn ⟨hf, hs⟩
  have hlen1 := fnV_len hf
  have hlen2 := fnV_len hf'
  rw [fnV_iff] at hf hf'
  repeat' first | ((with_reducible show aol _ _ _ _ _); first|(refine gF (by rfl) ?_ ?_; focus simp only [go_sem]; done)|(refine gU (by rfl) ?_ ?_; focus simp only [go_sem]; done))|((with_reducible refine hK _ ?_); clear hK K; try simp only [nx])|(with_reducible first|refine aS fun K hK => ?_|refine aB ?_|apply And.intro|exact True.intro)|((first|((with_reducible show aol _ _ _ _ _); try first|(refine gT (by rfl) ?_ ?_; focus simp only [go_sem]; done)|refine gB (by rfl) (by rfl) (fun h => ?_) (fun h => ?_) <;> (try simp only [hsX, reduceCtorEq] at h))|((with_reducible show Awp _ _ (Code.region _ _ _) _ _); first|refine rK (by repeat constructor) (fun K hK => ?_)|(refine dK (by kernel_rfl) (by repeat constructor) (fun K hK => ?_)))) <;> simp (maxSteps := 2000000) (disch := omega) only [go_sem, ↓reduceIte, Nat.reduceEqDiff, Nat.reduceAdd, Nat.reduceLT, Nat.reduceLeDiff, Nat.reduceSub])|((with_reducible show Awp _ _ (Code.cond _ _ _) _ _); refine aC rfl (fun h => ?_) (fun h => ?_) <;> (try simp only [hsX, reduceCtorEq] at h))|((with_reducible first|refine aK ?_|refine aR ?_); simp only [nx])|((with_reducible refine aE ?_); simp only [nx, ne_eq, not_false_eq_true, Nat.reduceEqDiff, reduceCtorEq]; try ((repeat ((fail_if_success refine hK _ ?_); clear hK K)); refine hK _ ?_; clear hK K))|((with_reducible first|show List.all _ _ = true|show lendOk _ _ = true); rfl)|omega|((with_reducible first|show ¬ _|show _ → _); intro h; first|contradiction|cases h; done|skip)
  all_goals (try (first|refine fK ?_|refine fM ?_; repeat clear hK))
  refine awp_for (fun st (k : Nat) => st.at [2, 3, 4] [(7, .i (splV l l' s (k - 1))), (8, .i k)] st.hp) (fun k => 1 ≤ k ∧ k ≤ s + 1) (fun k => s + 1 - k) 1 (by omega) ?_ ?_
  · simp [-List.getD_eq_getElem?_getD, -List.length_take, Le, leFr, ASt.at, keepFr, updAll, upd_zero, upd_succ, splV]
  rintro k ⟨hk0, hk⟩
  simp only [ASt.at, keepFr, updAll, upd_zero, upd_succ, lgA, Nat.reduceEqDiff, Nat.reduceAdd, ↓reduceIte, eq_self]
  have hv := splV_le l l' s (k - 1)
  have hb1 := getD_bd hf.2.2 k
  have hb2 := getD_bd hf'.2.2 ((s : Int) - (k : Int)).toNat
  have hb3 := getD_bd hf.2.2 (splV l l' s (k - 1))
  have hb4 := getD_bd hf'.2.2 ((s : Int) - (splV l l' s (k - 1) : Int)).toNat
  repeat' first | ((with_reducible show aol _ _ _ _ _); first|(refine gF (by rfl) ?_ ?_; focus simp only [go_sem]; done)|(refine gU (by rfl) ?_ ?_; focus simp only [go_sem]; done))|((with_reducible refine hK _ ?_); clear hK K; try simp only [nx])|(with_reducible first|refine aS fun K hK => ?_|refine aB ?_|apply And.intro|exact True.intro)|((first|((with_reducible show aol _ _ _ _ _); try first|(refine gT (by rfl) ?_ ?_; focus simp only [go_sem]; done)|refine gB (by rfl) (by rfl) (fun h => ?_) (fun h => ?_) <;> (try simp only [hsX, reduceCtorEq] at h))|((with_reducible show Awp _ _ (Code.region _ _ _) _ _); first|refine rK (by repeat constructor) (fun K hK => ?_)|(refine dK (by kernel_rfl) (by repeat constructor) (fun K hK => ?_)))) <;> simp (maxSteps := 2000000) (disch := omega) only [go_sem, ↓reduceIte, Nat.reduceEqDiff, Nat.reduceAdd, Nat.reduceLT, Nat.reduceLeDiff, Nat.reduceSub])|((with_reducible show Awp _ _ (Code.cond _ _ _) _ _); refine aC rfl (fun h => ?_) (fun h => ?_) <;> (try simp only [hsX, reduceCtorEq] at h))|((with_reducible first|refine aK ?_|refine aR ?_); simp only [nx])|((with_reducible refine aE ?_); simp only [nx, ne_eq, not_false_eq_true, Nat.reduceEqDiff, reduceCtorEq]; try ((repeat ((fail_if_success refine hK _ ?_); clear hK K)); refine hK _ ?_; clear hK K))|((with_reducible first|show List.all _ _ = true|show lendOk _ _ = true); rfl)|omega|((with_reducible first|show ¬ _|show _ → _); intro h; first|contradiction|cases h; done|skip)
  all_goals (try (first|refine fK ?_|refine fM ?_; repeat clear hK))
  · rename_i h1 h2
    have e : splV l l' s k = k := splV_yes hk0 h2 h
    refine ⟨k + 1, by omega, by omega, ?_⟩
    simp [-List.getD_eq_getElem?_getD, -List.length_take, Le, leFr, ASt.at, keepFr, updAll, upd_zero, upd_succ, e]
  · rename_i h1 h2
    have e : splV l l' s k = splV l l' s (k - 1) := splV_no hk0 (.inr h)
    refine ⟨k + 1, by omega, by omega, ?_⟩
    simp [-List.getD_eq_getElem?_getD, -List.length_take, Le, leFr, ASt.at, keepFr, updAll, upd_zero, upd_succ, e]
  · have e : splV l l' s k = splV l l' s (k - 1) := splV_no hk0 (.inl (by assumption))
    refine ⟨k + 1, by omega, by omega, ?_⟩
    simp [-List.getD_eq_getElem?_getD, -List.length_take, Le, leFr, ASt.at, keepFr, updAll, upd_zero, upd_succ, e]
  · obtain rfl : k = s + 1 := by omega
    refine fin_tmp rfl ?_; rfl
def cbF (n : Int) : Nat := 2 ^ n.toNat - 1
theorem cbF_eq (n : Int) : (2 : Int) ^ n.toNat - 1 = (cbF n : Int) := by
  have h := Nat.two_pow_pos n.toNat
  rw [pow_nat, cbF]; omega
end Go.Proofs.YthoionlldmfpiaaGreat
namespace Go.Proofs.YthoionlldmfpiaaGreat
open Go Go.Ab
attribute [local irreducible] aol
theorem ibit_all : ((List.range 64).all fun s => (List.range 7).all fun e => decide (iand (ishr (s : Int) (e : Int)) 1 = if Nat.testBit s e then 1 else 0)) = true := by kernel_rfl
theorem ibit {s e : Nat} (hs : s < 64) (he : e < 7) : iand (ishr (s : Int) (e : Int)) 1 = if Nat.testBit s e then 1 else 0 := of_decide_eq_true (List.all_eq_true.1 (List.all_eq_true.1 ibit_all s (List.mem_range.2 hs)) e (List.mem_range.2 he))
end Go.Proofs.YthoionlldmfpiaaGreat
