import Derived.Test.YtjlpjkiadohkiaaT13
import Derived.Test.YtjlpjkiadohkiaaT19
import Derived.Test.YtjlpjkiadohkiaaHs
import Derived.Test.YtjlpjkiadohkiaaT15
set_option linter.unusedSimpArgs false
set_option linter.unusedVariables false
set_option maxHeartbeats 2000000
namespace Go.Proofs.Ytjlpjkiadohkiaa
open Go Go.Ab
attribute [local irreducible] aol
attribute [local irreducible] popN


theorem set_fn {n s : Int} {l : List Int} (h : fnV n l = true ∧ 0 ≤ s ∧ s < 2 ^ n.toNat) : s < l.length ∧ s < 64 := by
  have hl := fnV_len h.1
  have hf := (fnV_iff.1 h.1).1
  have hp6 : 2 ^ n.toNat ≤ 32 := Nat.le_trans (Nat.pow_le_pow_right (by omega) (show n.toNat ≤ 5 by omega)) (by decide)
  have hpw := pow_nat n.toNat
  omega
end Go.Proofs.Ytjlpjkiadohkiaa
namespace Go.Proofs.Ytjlpjkiadohkiaa
open Go Go.Ab
attribute [local irreducible] aol


def tAllOf : Tab
  | [.ag [.i n, .sl .i64 _]] => some (0 ≤ n ∧ n ≤ 62, .i (2 ^ n.toNat - 1), [])
  | _ => none
theorem allOf_ok : Fits Try.prog 133 tAllOf := by
  refine ⟨callable_of Try.func133 (by kernel_rfl) rfl, ?_⟩
  intro args p out Ho h hp
  unfold tAllOf at h
  split at h <;> cases h
  rename_i n l
  refine ⟨acall_by (env_ok (env := []) (by simp)) Try.func133 rfl rfl rfl rfl rfl ?_, rfl, rfl⟩
  intro hlen c hc hX
  simp only [lensOk, AV.lenOk, true_and, and_true] at hlen
  simp only [Try.ntmps133, Try.results133, List.length_cons, List.length_nil, List.replicate, List.cons_append, List.nil_append, Nat.reduceAdd, Nat.reduceSub]
  have hs := ishl_one hp.1 hp.2
  have hf := full_lt hp.1 hp.2
  have hu := u64_id hp.1 (by omega)
  repeat' first | ((with_reducible show aol _ _ _ _ _); first | (refine aol_guard_f (by rfl) ?_ ?_; (focus (simp only [go_sem]; done))) | (refine aol_guard_un (by rfl) ?_ ?_; (focus (simp only [go_sem]; done)))) | ((with_reducible refine hK _ ?_); clear hK K; try simp only [nxA, nxB]) | (with_reducible refine awp_seq fun K hK => ?_) | ((first | ((with_reducible show aol _ _ _ _ _); try first | (refine aol_guard_t (by rfl) ?_ ?_; (focus (simp only [go_sem]; done))) | (refine aol_guard_b (by rfl) (by rfl) (fun h => ?_) (fun h => ?_) <;> (try simp only [hsA, hsB, hsC, hsD, hsE, List.all_cons, List.all_nil, ne_eq, reduceCtorEq] at h))) | ((with_reducible show Awp _ _ (Code.region _ _ _) _ _); first | refine awp_regK (by repeat constructor) (fun K hK => ?_) | (refine awp_drwK (by kernel_rfl) (by repeat constructor) (fun K hK => ?_)))) <;> simp (config := { maxSteps := 2000000 }) (disch := omega) only [go_sem, ↓reduceIte, Nat.reduceEqDiff, Nat.reduceAdd, Nat.reduceLT, Nat.reduceLeDiff, Nat.reduceSub, hs, hu]) | ((with_reducible show Awp _ _ (Code.cond _ _ _) _ _); refine awp_cond rfl (fun h => ?_) (fun h => ?_) <;> (try simp only [hsA, hsB, hsC, hsD, hsE, List.all_cons, List.all_nil, ne_eq, reduceCtorEq] at h)) | ((with_reducible first | refine awp_skip ?_ | refine awp_ret ?_); simp only [nxA, nxB]) | (with_reducible refine awp_block ?_) | ((with_reducible refine awp_exit ?_); simp only [nxA, ne_eq, not_false_eq_true, Nat.reduceEqDiff, reduceCtorEq]; try ((first | refine hK _ ?_ | (clear hK K; first | refine hK _ ?_ | (clear hK K; first | refine hK _ ?_ | (clear hK K; refine hK _ ?_)))); clear hK K)) | (with_reducible first | apply And.intro | exact True.intro) | ((with_reducible first | show List.all _ _ = true | show lendOk _ _ = true); rfl) | omega | ((with_reducible first | show ¬ _ | show _ → _); intro h; first | contradiction | cases h; done | skip)
  all_goals (try (first | refine fin_keep ?_ | refine finm_keep ?_; repeat clear hK))
  refine fin_tmp rfl ?_; rfl
def cbF (n : Int) : Nat := 2 ^ n.toNat - 1
theorem cbF_eq (n : Int) : (2 : Int) ^ n.toNat - 1 = (cbF n : Int) := by
  have h := Nat.two_pow_pos n.toNat
  rw [pow_nat, cbF]; omega
end Go.Proofs.Ytjlpjkiadohkiaa
namespace Go.Proofs.Ytjlpjkiadohkiaa
open Go Go.Ab
attribute [local irreducible] aol


theorem ibit_all : ((List.range 64).all fun s => (List.range 7).all fun e => decide (iand (ishr (s : Int) (e : Int)) 1 = if Nat.testBit s e then 1 else 0)) = true := by kernel_rfl
theorem ibit {s e : Nat} (hs : s < 64) (he : e < 7) : iand (ishr (s : Int) (e : Int)) 1 = if Nat.testBit s e then 1 else 0 := of_decide_eq_true (List.all_eq_true.1 (List.all_eq_true.1 ibit_all s (List.mem_range.2 hs)) e (List.mem_range.2 he))
end Go.Proofs.Ytjlpjkiadohkiaa
namespace Go.Proofs.Ytjlpjkiadohkiaa
open Go Go.Ab
attribute [local irreducible] aol
attribute [local irreducible] popN


theorem pol_iff {n : Int} {l : List Int} : polV n l = true ↔ fnV n l = true ∧ l.getD 0 0 = 0 ∧ incrV n l = true ∧ subV n l = true := by
  unfold polV grV; simp only [Bool.and_eq_true, decide_eq_true_eq]
  constructor
  · rintro ⟨⟨h1, h2⟩, ⟨h3, h4⟩, h5⟩; exact ⟨h1, h2, h4, h5⟩
  · rintro ⟨h1, h2, h3, h4⟩; exact ⟨⟨h1, h2⟩, ⟨h1, h3⟩, h4⟩
theorem cbF_lt (n : Int) : cbF n + 1 = 2 ^ n.toNat := by have := Nat.two_pow_pos n.toNat; unfold cbF; omega
end Go.Proofs.Ytjlpjkiadohkiaa
