import Derived.Test.YtjlpjkiadohkiaaT84
import Derived.Test.YtjlpjkiadohkiaaT81
import Derived.Test.YtjlpjkiadohkiaaT27
import Derived.Test.YtjlpjkiadohkiaaT34
import Derived.Test.YtjlpjkiadohkiaaT61
import Derived.Test.YtjlpjkiadohkiaaHs
import Derived.Test.YtjlpjkiadohkiaaT55
set_option linter.unusedSimpArgs false
set_option linter.unusedVariables false
set_option maxHeartbeats 2000000
namespace Go.Proofs.Ytjlpjkiadohkiaa
open Go Go.Ab
attribute [local irreducible] aol
attribute [local irreducible] popN


theorem elPop_all : ((List.range 64).all fun s => decide ((elL s 6).length = popN s)) = true := by kernel_rfl
theorem elPop {s : Nat} (h : s < 64) : (elL s 6).length = popN s := of_decide_eq_true (List.all_eq_true.1 elPop_all s (List.mem_range.2 h))
def tElOf : Tab
  | [.i n, .i s] => some ((0 ≤ n ∧ n ≤ 5) ∧ isSet n s = true, .own 0, [.row .i64 3 (elL s.toNat 6)])
  | _ => none
theorem specElOf_ok : Fits Try.prog 16 tElOf := by
  refine ⟨callable_of Try.func16 (by kernel_rfl) rfl, ?_⟩
  intro args p out Ho h hp
  unfold tElOf at h
  split at h <;> cases h
  rename_i n s
  refine ⟨acall_by (env_ok (env := [(125, tWithin), (126, tFull), (127, tElem)]) (by simp only [List.forall_mem_cons, List.not_mem_nil, false_implies, implies_true, and_true]; exact ⟨specIn_ok, full_ok, list2_ok⟩)) Try.func16 rfl rfl rfl rfl rfl ?_, rfl, rfl⟩
  intro hlen c hc hX
  simp only [lensOk, AV.lenOk, true_and, and_true] at hlen
  simp only [Try.ntmps16, Try.results16, List.length_cons, List.length_nil, List.replicate, List.cons_append, List.nil_append, Nat.reduceAdd, Nat.reduceSub]
  obtain ⟨hn, hs⟩ := hp
  have h10 : inR n 0 10 = true := by rw [inR_iff]; omega
  have hs' := hs
  rw [isSet_iff] at hs'
  have hp6 := pow_le6 (g := n) ⟨hn.1, by omega⟩
  have hpw := pow_nat n.toNat
  have hel := elL_len s.toNat 6
  repeat' first | ((with_reducible show aol _ _ _ _ _); first | (refine aol_guard_f (by rfl) ?_ ?_; (focus (simp only [go_sem]; done))) | (refine aol_guard_un (by rfl) ?_ ?_; (focus (simp only [go_sem]; done)))) | ((with_reducible refine hK _ ?_); clear hK K; try simp only [nxA, nxB]) | (with_reducible refine awp_seq fun K hK => ?_) | ((first | ((with_reducible show aol _ _ _ _ _); try first | (refine aol_guard_t (by rfl) ?_ ?_; (focus (simp only [go_sem]; done))) | (refine aol_guard_b (by rfl) (by rfl) (fun h => ?_) (fun h => ?_) <;> (try simp only [hsA, hsB, hsC, hsD, hsE, List.all_cons, List.all_nil, ne_eq, reduceCtorEq] at h))) | ((with_reducible show Awp _ _ (Code.region _ _ _) _ _); first | refine awp_regK (by repeat constructor) (fun K hK => ?_) | (refine awp_drwK (by kernel_rfl) (by repeat constructor) (fun K hK => ?_)))) <;> simp (config := { maxSteps := 2000000 }) (disch := omega) only [go_sem, ↓reduceIte, Nat.reduceEqDiff, Nat.reduceAdd, Nat.reduceLT, Nat.reduceLeDiff, Nat.reduceSub, tWithin, h10, tFull, inR_isSet, hs, tElem]) | ((with_reducible show Awp _ _ (Code.cond _ _ _) _ _); refine awp_cond rfl (fun h => ?_) (fun h => ?_) <;> (try simp only [hsA, hsB, hsC, hsD, hsE, List.all_cons, List.all_nil, ne_eq, reduceCtorEq] at h)) | ((with_reducible first | refine awp_skip ?_ | refine awp_ret ?_); simp only [nxA, nxB]) | (with_reducible refine awp_block ?_) | ((with_reducible refine awp_exit ?_); simp only [nxA, ne_eq, not_false_eq_true, Nat.reduceEqDiff, reduceCtorEq]; try ((first | refine hK _ ?_ | (clear hK K; first | refine hK _ ?_ | (clear hK K; first | refine hK _ ?_ | (clear hK K; refine hK _ ?_)))); clear hK K)) | (with_reducible first | apply And.intro | exact True.intro) | ((with_reducible first | show List.all _ _ = true | show lendOk _ _ = true); rfl) | omega | ((with_reducible first | show ¬ _ | show _ → _); intro h; first | contradiction | cases h; done | skip)
  all_goals (try (first | refine fin_keep ?_ | refine finm_keep ?_; repeat clear hK))
  exact fin_t1 [0] rfl rfl rfl
end Go.Proofs.Ytjlpjkiadohkiaa
