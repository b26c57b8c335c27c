import Derived.Test.YtjebaloibfngnaaT1
set_option linter.unusedSimpArgs false
set_option linter.unusedVariables false
set_option maxHeartbeats 2000000
namespace Go.Proofs.Ytjebaloibfngnaa
open Go Go.Ab
attribute [local irreducible] aol

/-! ### Binomial numbers -/
def bn : Nat → Nat → Nat
  | _, 0 => 1
  | 0, _ + 1 => 0
  | n + 1, k + 1 => bn n k + bn n (k + 1)

theorem bn_zero (n : Nat) : bn n 0 = 1 := by cases n <;> rfl
theorem bn_absorb : ∀ n i : Nat, (i + 1) * bn (n + 1) (i + 1) = (n + 1) * bn n i
  | 0, 0 => rfl
  | 0, i + 1 => by simp [bn]
  | n + 1, 0 => by
    have := bn_absorb n 0
    have e : bn (n + 2) 1 = bn (n + 1) 0 + bn (n + 1) 1 := rfl
    rw [e, bn_zero]
    rw [bn_zero] at this
    simp only [Nat.zero_add, Nat.one_mul, Nat.mul_one] at this ⊢
    omega
  | n + 1, i + 1 => by
    have h1 := bn_absorb n (i + 1)
    have h2 := bn_absorb n i
    have e : bn (n + 2) (i + 2) = bn (n + 1) (i + 1) + bn (n + 1) (i + 2) := rfl
    have e2 : bn (n + 1) (i + 1) = bn n i + bn n (i + 1) := rfl
    have h3 : (i + 2) * bn (n + 1) (i + 1) = bn (n + 1) (i + 1) + (i + 1) * bn (n + 1) (i + 1) := by rw [show i + 2 = 1 + (i + 1) by omega, Nat.add_mul, Nat.one_mul]
    calc (i + 1 + 1) * bn (n + 1 + 1) (i + 1 + 1) = (i + 2) * bn (n + 1) (i + 1) + (i + 1 + 1) * bn (n + 1) (i + 1 + 1) := by rw [e, Nat.mul_add]
      _ = bn (n + 1) (i + 1) + ((n + 1) * bn n i + (n + 1) * bn n (i + 1)) := by rw [h3, h1, h2]; omega
      _ = bn (n + 1) (i + 1) + (n + 1) * bn (n + 1) (i + 1) := by rw [← Nat.mul_add, ← e2]
      _ = (n + 1 + 1) * bn (n + 1) (i + 1) := by rw [Nat.add_mul (n + 1) 1, Nat.one_mul]; omega
theorem bn_step {n i : Nat} (h : i ≤ n) : (i + 1) * bn n (i + 1) = (n - i) * bn n i := by
  have h1 := bn_absorb n i
  have e : bn (n + 1) (i + 1) = bn n i + bn n (i + 1) := rfl
  rw [e, Nat.mul_add] at h1
  have h2 : (n + 1) * bn n i = (i + 1) * bn n i + (n - i) * bn n i := by rw [← Nat.add_mul]; congr 1; omega
  omega
theorem bn_le : ∀ n i : Nat, bn n i ≤ 2 ^ n
  | n, 0 => by rw [bn_zero]; exact Nat.one_le_two_pow
  | 0, i + 1 => by simp [bn]
  | n + 1, i + 1 => by
    have h1 := bn_le n i
    have h2 := bn_le n (i + 1)
    simp only [bn]; omega
theorem bn_le20 {n i : Nat} (h : n ≤ 20) : bn n i ≤ 1048576 := Nat.le_trans (bn_le n i) (Nat.le_trans (Nat.pow_le_pow_right (by omega) h) (by decide))
theorem bn_big : ∀ {n i : Nat}, n < i → bn n i = 0
  | 0, i + 1, _ => rfl
  | n + 1, i + 1, h => by
    have h1 := bn_big (n := n) (i := i) (by omega)
    have h2 := bn_big (n := n) (i := i + 1) (by omega)
    simp [bn, h1, h2]

theorem mul_bd {a b A B : Int} (h0 : 0 ≤ a) (h1 : a ≤ A) (h2 : 0 ≤ b) (h3 : b ≤ B) : 0 ≤ a * b ∧ a * b ≤ A * B := ⟨Int.mul_nonneg h0 h2, Int.mul_le_mul h1 h3 h2 (by omega)⟩
theorem tdiv_of {a b d : Int} (h : a = b * d) (hd : d ≠ 0) : a.tdiv d = b := by rw [h]; exact Int.mul_tdiv_cancel _ hd

/-- n over k. -/
def chV (n k : Int) : Int := if 0 ≤ k ∧ k ≤ n then bn n.toNat k.toNat else 0
theorem chV_bd {n k : Int} (h : n ≤ 20) : 0 ≤ chV n k ∧ chV n k ≤ 1048576 := by
  unfold chV; split
  · have := bn_le20 (n := n.toNat) (i := k.toNat) (by omega); omega
  · omega

def tBinomial : Tab
  | [.i n, .i k] => some (0 ≤ n ∧ n ≤ 20, .i (chV n k), [])
  | _ => none

theorem binomial_ok : Fits Try.prog 64 tBinomial := by
  refine ⟨callable_of Try.func64 (by kernel_rfl) rfl, ?_⟩
  intro args p out Ho h hp
  unfold tBinomial at h
  split at h <;> cases h
  rename_i n k
  refine ⟨acall_by (env_ok (env := []) (by simp)) Try.func64 rfl rfl rfl rfl rfl ?_, rfl, rfl⟩
  intro hlen c hc hX
  simp only [lensOk, AV.lenOk, true_and, and_true] at hlen
  simp only [Try.ntmps64, Try.results64, List.length_cons, List.length_nil, List.replicate, List.cons_append, List.nil_append, Nat.reduceAdd, Nat.reduceSub]
  obtain ⟨hp1, hp2⟩ := hp
  repeat' first
    | ((with_reducible show aol _ _ _ _ _); first
        | (refine aol_guard_f (by rfl) ?_ ?_; (focus (simp only [go_sem]; done)))
        | (refine aol_guard_un (by rfl) ?_ ?_; (focus (simp only [go_sem]; done)))
        | (refine aol_guard_t (by rfl) ?_ ?_; (focus (simp only [go_sem]; done)); simp (config := { maxSteps := 2000000 }) (disch := omega) only [go_sem, ↓reduceIte, Nat.reduceEqDiff, Nat.reduceAdd, Nat.reduceLT, Nat.reduceLeDiff, Nat.reduceSub])
        | (refine aol_guard_b (by rfl) (by rfl) (fun h => ?_) (fun h => ?_) <;> (try simp only [Bool.and_eq_true, Bool.and_eq_false_iff, Bool.or_eq_true, Bool.or_eq_false_iff, List.all_cons, List.all_nil, Bool.and_true, beq_self_eq_true, beq_iff_eq, beq_eq_false_iff_ne, ne_eq, decide_true, decide_false, not_true_eq_false, not_false_eq_true, decide_eq_true_eq, decide_eq_false_iff_not, Bool.not_true, Bool.not_false, Bool.not_eq_true', Bool.not_eq_false', Int.not_le, Int.not_lt, reduceCtorEq, inR_iff, inR_not, isSet_iff, isSet_not] at h) <;> simp (config := { maxSteps := 2000000 }) (disch := omega) only [go_sem, ↓reduceIte, Nat.reduceEqDiff, Nat.reduceAdd, Nat.reduceLT, Nat.reduceLeDiff, Nat.reduceSub])
        | simp (config := { maxSteps := 2000000 }) (disch := omega) only [go_sem, ↓reduceIte, Nat.reduceEqDiff, Nat.reduceAdd, Nat.reduceLT, Nat.reduceLeDiff, Nat.reduceSub])
    | ((with_reducible refine hK _ ?_); clear hK K; try simp only [thn_n, blk_n, fin_n, finm_n])
    | (with_reducible refine awp_seq fun K hK => ?_)
    | ((with_reducible show Awp _ _ (Code.region _ _ _) _ _); first
        | (refine awp_regK (by repeat constructor) (fun K hK => ?_); simp (config := { maxSteps := 2000000 }) (disch := omega) only [go_sem, ↓reduceIte, Nat.reduceEqDiff, Nat.reduceAdd, Nat.reduceLT, Nat.reduceLeDiff, Nat.reduceSub])
        | (refine awp_drwK (by kernel_rfl) (by repeat constructor) (fun K hK => ?_); simp (config := { maxSteps := 2000000 }) (disch := omega) only [go_sem, ↓reduceIte, Nat.reduceEqDiff, Nat.reduceAdd, Nat.reduceLT, Nat.reduceLeDiff, Nat.reduceSub]))
    | ((with_reducible show Awp _ _ (Code.cond _ _ _) _ _); refine awp_cond rfl (fun h => ?_) (fun h => ?_) <;> (try simp only [Bool.and_eq_true, Bool.and_eq_false_iff, Bool.or_eq_true, Bool.or_eq_false_iff, List.all_cons, List.all_nil, Bool.and_true, beq_self_eq_true, beq_iff_eq, beq_eq_false_iff_ne, ne_eq, decide_true, decide_false, not_true_eq_false, not_false_eq_true, decide_eq_true_eq, decide_eq_false_iff_not, Bool.not_true, Bool.not_false, Bool.not_eq_true', Bool.not_eq_false', Int.not_le, Int.not_lt, reduceCtorEq, inR_iff, inR_not, isSet_iff, isSet_not] at h))
    | ((with_reducible refine awp_skip ?_); simp only [thn_n, blk_n, fin_n, finm_n])
    | ((with_reducible refine awp_ret ?_); simp only [thn_r, blk_r, fin_r, finm_r])
    | (with_reducible refine awp_block ?_)
    | ((with_reducible refine awp_exit ?_); simp only [thn_e, blk_e, blk_x, blk_n, thn_n, ne_eq, not_false_eq_true, Nat.reduceEqDiff, reduceCtorEq]; first | (refine hK _ ?_; clear hK K) | (clear hK K; refine hK _ ?_; clear hK K) | (clear hK K; clear hK K; refine hK _ ?_; clear hK K) | (clear hK K; clear hK K; clear hK K; refine hK _ ?_; clear hK K) | skip)
    | (with_reducible apply And.intro)
    | (with_reducible exact True.intro)
    | ((with_reducible show List.all _ _ = true); rfl)
    | ((with_reducible show lendOk _ _ = true); rfl)
    | omega
    | ((first | (with_reducible show ¬ _) | (with_reducible show _ → _)); intro h; first | contradiction | cases h; done | skip)
  all_goals (try (first | refine fin_keep ?_ | refine finm_keep ?_; repeat clear hK))
  · refine fin_tmp rfl ?_; simp only [nth_zero, nth_succ, chV]; rw [if_neg (by omega)]
  rotate_left
  · refine fin_tmp rfl ?_; simp only [nth_zero, nth_succ, chV]; rw [if_neg (by omega)]
  refine awp_for (fun s (i : Nat) => s.at [0, 14] [(5, .i (bn n.toNat i)), (15, .i i)] s.hp) (fun i => (i : Int) ≤ k) (fun i => k.toNat - i) 0 (by omega) ?_ ?_
  · simp [-List.getD_eq_getElem?_getD, -List.length_take, Le, leFr, ASt.at, keepFr, updAll, upd_zero, upd_succ, bn_zero]
  rintro i hi
  simp only [ASt.at, keepFr, updAll, upd_zero, upd_succ, List.mem_cons, List.not_mem_nil, Nat.reduceEqDiff, Nat.reduceAdd, or_false, or_true, false_or, true_or, ↓reduceIte, eq_self]
  have hb := bn_le20 (n := n.toNat) (i := i) (by omega)
  have hs := bn_step (n := n.toNat) (i := i) (by omega)
  have hm := mul_bd (a := bn n.toNat i) (A := 1048576) (b := n - i) (B := 20) (by omega) (by omega) (by omega) (by omega)
  have hq : ((bn n.toNat i : Int) * (n - i)).tdiv (i + 1) = bn n.toNat (i + 1) := by
    refine tdiv_of ?_ (by omega)
    have : (((n.toNat - i) * bn n.toNat i : Nat) : Int) = (((i + 1) * bn n.toNat (i + 1) : Nat) : Int) := by rw [hs]
    rw [Int.natCast_mul, Int.natCast_mul, Int.natCast_sub (by omega), Int.toNat_of_nonneg hp1, Int.mul_comm, Int.mul_comm ((i + 1 : Nat) : Int)] at this
    rw [this]; simp
  have hb' := bn_le20 (n := n.toNat) (i := i + 1) (by omega)
  repeat' first
    | ((with_reducible show aol _ _ _ _ _); first
        | (refine aol_guard_f (by rfl) ?_ ?_; (focus (simp only [go_sem]; done)))
        | (refine aol_guard_un (by rfl) ?_ ?_; (focus (simp only [go_sem]; done)))
        | (refine aol_guard_t (by rfl) ?_ ?_; (focus (simp only [go_sem]; done)); simp (config := { maxSteps := 2000000 }) (disch := omega) only [go_sem, ↓reduceIte, Nat.reduceEqDiff, Nat.reduceAdd, Nat.reduceLT, Nat.reduceLeDiff, Nat.reduceSub, hq])
        | (refine aol_guard_b (by rfl) (by rfl) (fun h => ?_) (fun h => ?_) <;> (try simp only [Bool.and_eq_true, Bool.and_eq_false_iff, Bool.or_eq_true, Bool.or_eq_false_iff, List.all_cons, List.all_nil, Bool.and_true, beq_self_eq_true, beq_iff_eq, beq_eq_false_iff_ne, ne_eq, decide_true, decide_false, not_true_eq_false, not_false_eq_true, decide_eq_true_eq, decide_eq_false_iff_not, Bool.not_true, Bool.not_false, Bool.not_eq_true', Bool.not_eq_false', Int.not_le, Int.not_lt, reduceCtorEq, inR_iff, inR_not, isSet_iff, isSet_not] at h) <;> simp (config := { maxSteps := 2000000 }) (disch := omega) only [go_sem, ↓reduceIte, Nat.reduceEqDiff, Nat.reduceAdd, Nat.reduceLT, Nat.reduceLeDiff, Nat.reduceSub, hq])
        | simp (config := { maxSteps := 2000000 }) (disch := omega) only [go_sem, ↓reduceIte, Nat.reduceEqDiff, Nat.reduceAdd, Nat.reduceLT, Nat.reduceLeDiff, Nat.reduceSub, hq])
    | ((with_reducible refine hK _ ?_); clear hK K; try simp only [thn_n, blk_n, fin_n, finm_n])
    | (with_reducible refine awp_seq fun K hK => ?_)
    | ((with_reducible show Awp _ _ (Code.region _ _ _) _ _); first
        | (refine awp_regK (by repeat constructor) (fun K hK => ?_); simp (config := { maxSteps := 2000000 }) (disch := omega) only [go_sem, ↓reduceIte, Nat.reduceEqDiff, Nat.reduceAdd, Nat.reduceLT, Nat.reduceLeDiff, Nat.reduceSub, hq])
        | (refine awp_drwK (by kernel_rfl) (by repeat constructor) (fun K hK => ?_); simp (config := { maxSteps := 2000000 }) (disch := omega) only [go_sem, ↓reduceIte, Nat.reduceEqDiff, Nat.reduceAdd, Nat.reduceLT, Nat.reduceLeDiff, Nat.reduceSub, hq]))
    | ((with_reducible show Awp _ _ (Code.cond _ _ _) _ _); refine awp_cond rfl (fun h => ?_) (fun h => ?_) <;> (try simp only [Bool.and_eq_true, Bool.and_eq_false_iff, Bool.or_eq_true, Bool.or_eq_false_iff, List.all_cons, List.all_nil, Bool.and_true, beq_self_eq_true, beq_iff_eq, beq_eq_false_iff_ne, ne_eq, decide_true, decide_false, not_true_eq_false, not_false_eq_true, decide_eq_true_eq, decide_eq_false_iff_not, Bool.not_true, Bool.not_false, Bool.not_eq_true', Bool.not_eq_false', Int.not_le, Int.not_lt, reduceCtorEq, inR_iff, inR_not, isSet_iff, isSet_not] at h))
    | ((with_reducible refine awp_skip ?_); simp only [thn_n, blk_n, fin_n, finm_n])
    | ((with_reducible refine awp_ret ?_); simp only [thn_r, blk_r, fin_r, finm_r])
    | (with_reducible refine awp_block ?_)
    | ((with_reducible refine awp_exit ?_); simp only [thn_e, blk_e, blk_x, blk_n, thn_n, ne_eq, not_false_eq_true, Nat.reduceEqDiff, reduceCtorEq]; first | (refine hK _ ?_; clear hK K) | (clear hK K; refine hK _ ?_; clear hK K) | (clear hK K; clear hK K; refine hK _ ?_; clear hK K) | (clear hK K; clear hK K; clear hK K; refine hK _ ?_; clear hK K) | skip)
    | (with_reducible apply And.intro)
    | (with_reducible exact True.intro)
    | ((with_reducible show List.all _ _ = true); rfl)
    | ((with_reducible show lendOk _ _ = true); rfl)
    | omega
    | ((first | (with_reducible show ¬ _) | (with_reducible show _ → _)); intro h; first | contradiction | cases h; done | skip)
  all_goals (try (first | refine fin_keep ?_ | refine finm_keep ?_; repeat clear hK))
  · refine ⟨i + 1, by omega, by omega, ?_⟩
    simp [-List.getD_eq_getElem?_getD, -List.length_take, Le, leFr, ASt.at, keepFr, updAll, upd_zero, upd_succ]
  · obtain rfl : k = i := by omega
    repeat' first
      | ((with_reducible show aol _ _ _ _ _); first
          | (refine aol_guard_f (by rfl) ?_ ?_; (focus (simp only [go_sem]; done)))
          | (refine aol_guard_un (by rfl) ?_ ?_; (focus (simp only [go_sem]; done)))
          | (refine aol_guard_t (by rfl) ?_ ?_; (focus (simp only [go_sem]; done)); simp (config := { maxSteps := 2000000 }) (disch := omega) only [go_sem, ↓reduceIte, Nat.reduceEqDiff, Nat.reduceAdd, Nat.reduceLT, Nat.reduceLeDiff, Nat.reduceSub])
          | (refine aol_guard_b (by rfl) (by rfl) (fun h => ?_) (fun h => ?_) <;> (try simp only [Bool.and_eq_true, Bool.and_eq_false_iff, Bool.or_eq_true, Bool.or_eq_false_iff, List.all_cons, List.all_nil, Bool.and_true, beq_self_eq_true, beq_iff_eq, beq_eq_false_iff_ne, ne_eq, decide_true, decide_false, not_true_eq_false, not_false_eq_true, decide_eq_true_eq, decide_eq_false_iff_not, Bool.not_true, Bool.not_false, Bool.not_eq_true', Bool.not_eq_false', Int.not_le, Int.not_lt, reduceCtorEq, inR_iff, inR_not, isSet_iff, isSet_not] at h) <;> simp (config := { maxSteps := 2000000 }) (disch := omega) only [go_sem, ↓reduceIte, Nat.reduceEqDiff, Nat.reduceAdd, Nat.reduceLT, Nat.reduceLeDiff, Nat.reduceSub])
          | simp (config := { maxSteps := 2000000 }) (disch := omega) only [go_sem, ↓reduceIte, Nat.reduceEqDiff, Nat.reduceAdd, Nat.reduceLT, Nat.reduceLeDiff, Nat.reduceSub])
      | ((with_reducible refine hK _ ?_); clear hK K; try simp only [thn_n, blk_n, fin_n, finm_n])
      | (with_reducible refine awp_seq fun K hK => ?_)
      | ((with_reducible show Awp _ _ (Code.region _ _ _) _ _); first
          | (refine awp_regK (by repeat constructor) (fun K hK => ?_); simp (config := { maxSteps := 2000000 }) (disch := omega) only [go_sem, ↓reduceIte, Nat.reduceEqDiff, Nat.reduceAdd, Nat.reduceLT, Nat.reduceLeDiff, Nat.reduceSub])
          | (refine awp_drwK (by kernel_rfl) (by repeat constructor) (fun K hK => ?_); simp (config := { maxSteps := 2000000 }) (disch := omega) only [go_sem, ↓reduceIte, Nat.reduceEqDiff, Nat.reduceAdd, Nat.reduceLT, Nat.reduceLeDiff, Nat.reduceSub]))
      | ((with_reducible show Awp _ _ (Code.cond _ _ _) _ _); refine awp_cond rfl (fun h => ?_) (fun h => ?_) <;> (try simp only [Bool.and_eq_true, Bool.and_eq_false_iff, Bool.or_eq_true, Bool.or_eq_false_iff, List.all_cons, List.all_nil, Bool.and_true, beq_self_eq_true, beq_iff_eq, beq_eq_false_iff_ne, ne_eq, decide_true, decide_false, not_true_eq_false, not_false_eq_true, decide_eq_true_eq, decide_eq_false_iff_not, Bool.not_true, Bool.not_false, Bool.not_eq_true', Bool.not_eq_false', Int.not_le, Int.not_lt, reduceCtorEq, inR_iff, inR_not, isSet_iff, isSet_not] at h))
      | ((with_reducible refine awp_skip ?_); simp only [thn_n, blk_n, fin_n, finm_n])
      | ((with_reducible refine awp_ret ?_); simp only [thn_r, blk_r, fin_r, finm_r])
      | (with_reducible refine awp_block ?_)
      | ((with_reducible refine awp_exit ?_); simp only [thn_e, blk_e, blk_x, blk_n, thn_n, ne_eq, not_false_eq_true, Nat.reduceEqDiff, reduceCtorEq]; first | (refine hK _ ?_; clear hK K) | (clear hK K; refine hK _ ?_; clear hK K) | (clear hK K; clear hK K; refine hK _ ?_; clear hK K) | (clear hK K; clear hK K; clear hK K; refine hK _ ?_; clear hK K) | skip)
      | (with_reducible apply And.intro)
      | (with_reducible exact True.intro)
      | ((with_reducible show List.all _ _ = true); rfl)
      | ((with_reducible show lendOk _ _ = true); rfl)
      | omega
      | ((first | (with_reducible show ¬ _) | (with_reducible show _ → _)); intro h; first | contradiction | cases h; done | skip)
    all_goals (try (first | refine fin_keep ?_ | refine finm_keep ?_; repeat clear hK))
    refine fin_tmp rfl ?_; simp only [nth_zero, nth_succ, chV]; rw [if_pos (by omega)]; rfl

def tChoose : Tab
  | [.i n, .i k] => some (True, .i (if inR n 0 20 then chV n k else -1), [])
  | _ => none

theorem implChoose_ok : Fits Try.prog 16 tChoose := by
  refine ⟨callable_of Try.func16 (by kernel_rfl) rfl, ?_⟩
  intro args p out Ho h hp
  unfold tChoose at h
  split at h <;> cases h
  rename_i n k
  refine ⟨acall_by (env_ok (env := [(63, tWithin), (64, tBinomial)]) (by simp only [List.forall_mem_cons, List.not_mem_nil, false_implies, implies_true, and_true]; exact ⟨within_ok, binomial_ok⟩)) Try.func16 rfl rfl rfl rfl rfl ?_, rfl, rfl⟩
  intro hlen c hc hX
  simp only [lensOk, AV.lenOk, true_and, and_true] at hlen
  simp only [Try.ntmps16, Try.results16, List.length_cons, List.length_nil, List.replicate, List.cons_append, List.nil_append, Nat.reduceAdd, Nat.reduceSub]
  repeat' first
    | ((with_reducible show aol _ _ _ _ _); first
        | (refine aol_guard_f (by rfl) ?_ ?_; (focus (simp only [go_sem]; done)))
        | (refine aol_guard_un (by rfl) ?_ ?_; (focus (simp only [go_sem]; done)))
        | (refine aol_guard_t (by rfl) ?_ ?_; (focus (simp only [go_sem]; done)); simp (config := { maxSteps := 2000000 }) (disch := omega) only [go_sem, ↓reduceIte, Nat.reduceEqDiff, Nat.reduceAdd, Nat.reduceLT, Nat.reduceLeDiff, Nat.reduceSub, tWithin, tBinomial])
        | (refine aol_guard_b (by rfl) (by rfl) (fun h => ?_) (fun h => ?_) <;> (try simp only [Bool.and_eq_true, Bool.and_eq_false_iff, Bool.or_eq_true, Bool.or_eq_false_iff, List.all_cons, List.all_nil, Bool.and_true, beq_self_eq_true, beq_iff_eq, beq_eq_false_iff_ne, ne_eq, decide_true, decide_false, not_true_eq_false, not_false_eq_true, decide_eq_true_eq, decide_eq_false_iff_not, Bool.not_true, Bool.not_false, Bool.not_eq_true', Bool.not_eq_false', Int.not_le, Int.not_lt, reduceCtorEq, inR_iff, inR_not, isSet_iff, isSet_not] at h) <;> simp (config := { maxSteps := 2000000 }) (disch := omega) only [go_sem, ↓reduceIte, Nat.reduceEqDiff, Nat.reduceAdd, Nat.reduceLT, Nat.reduceLeDiff, Nat.reduceSub, tWithin, tBinomial])
        | simp (config := { maxSteps := 2000000 }) (disch := omega) only [go_sem, ↓reduceIte, Nat.reduceEqDiff, Nat.reduceAdd, Nat.reduceLT, Nat.reduceLeDiff, Nat.reduceSub, tWithin, tBinomial])
    | ((with_reducible refine hK _ ?_); clear hK K; try simp only [thn_n, blk_n, fin_n, finm_n])
    | (with_reducible refine awp_seq fun K hK => ?_)
    | ((with_reducible show Awp _ _ (Code.region _ _ _) _ _); first
        | (refine awp_regK (by repeat constructor) (fun K hK => ?_); simp (config := { maxSteps := 2000000 }) (disch := omega) only [go_sem, ↓reduceIte, Nat.reduceEqDiff, Nat.reduceAdd, Nat.reduceLT, Nat.reduceLeDiff, Nat.reduceSub, tWithin, tBinomial])
        | (refine awp_drwK (by kernel_rfl) (by repeat constructor) (fun K hK => ?_); simp (config := { maxSteps := 2000000 }) (disch := omega) only [go_sem, ↓reduceIte, Nat.reduceEqDiff, Nat.reduceAdd, Nat.reduceLT, Nat.reduceLeDiff, Nat.reduceSub, tWithin, tBinomial]))
    | ((with_reducible show Awp _ _ (Code.cond _ _ _) _ _); refine awp_cond rfl (fun h => ?_) (fun h => ?_) <;> (try simp only [Bool.and_eq_true, Bool.and_eq_false_iff, Bool.or_eq_true, Bool.or_eq_false_iff, List.all_cons, List.all_nil, Bool.and_true, beq_self_eq_true, beq_iff_eq, beq_eq_false_iff_ne, ne_eq, decide_true, decide_false, not_true_eq_false, not_false_eq_true, decide_eq_true_eq, decide_eq_false_iff_not, Bool.not_true, Bool.not_false, Bool.not_eq_true', Bool.not_eq_false', Int.not_le, Int.not_lt, reduceCtorEq, inR_iff, inR_not, isSet_iff, isSet_not] at h))
    | ((with_reducible refine awp_skip ?_); simp only [thn_n, blk_n, fin_n, finm_n])
    | ((with_reducible refine awp_ret ?_); simp only [thn_r, blk_r, fin_r, finm_r])
    | (with_reducible refine awp_block ?_)
    | ((with_reducible refine awp_exit ?_); simp only [thn_e, blk_e, blk_x, blk_n, thn_n, ne_eq, not_false_eq_true, Nat.reduceEqDiff, reduceCtorEq]; first | (refine hK _ ?_; clear hK K) | (clear hK K; refine hK _ ?_; clear hK K) | (clear hK K; clear hK K; refine hK _ ?_; clear hK K) | (clear hK K; clear hK K; clear hK K; refine hK _ ?_; clear hK K) | skip)
    | (with_reducible apply And.intro)
    | (with_reducible exact True.intro)
    | ((with_reducible show List.all _ _ = true); rfl)
    | ((with_reducible show lendOk _ _ = true); rfl)
    | omega
    | ((first | (with_reducible show ¬ _) | (with_reducible show _ → _)); intro h; first | contradiction | cases h; done | skip)
  all_goals (try (first | refine fin_keep ?_ | refine finm_keep ?_; repeat clear hK))
  · refine fin_tmp rfl ?_; simp only [nth_zero, nth_succ]; rw [if_neg (by rw [inR_iff]; omega)]
  · refine fin_tmp rfl ?_; simp only [nth_zero, nth_succ]; rw [if_pos (by rw [inR_iff]; omega)]

theorem specIn_ok : Fits Try.prog 62 tWithin := by
  refine ⟨callable_of Try.func62 (by kernel_rfl) rfl, ?_⟩
  intro args p out Ho h hp
  unfold tWithin at h
  split at h <;> cases h
  rename_i n a b
  refine ⟨acall_by (env_ok (env := []) (by simp)) Try.func62 rfl rfl rfl rfl rfl ?_, rfl, rfl⟩
  intro hlen c hc hX
  simp only [lensOk, AV.lenOk, true_and, and_true] at hlen
  simp only [Try.ntmps62, Try.results62, List.length_cons, List.length_nil, List.replicate, List.cons_append, List.nil_append, Nat.reduceAdd, Nat.reduceSub]
  repeat' first
    | ((with_reducible show aol _ _ _ _ _); first
        | (refine aol_guard_f (by rfl) ?_ ?_; (focus (simp only [go_sem]; done)))
        | (refine aol_guard_un (by rfl) ?_ ?_; (focus (simp only [go_sem]; done)))
        | (refine aol_guard_t (by rfl) ?_ ?_; (focus (simp only [go_sem]; done)); simp (config := { maxSteps := 2000000 }) (disch := omega) only [go_sem, ↓reduceIte, Nat.reduceEqDiff, Nat.reduceAdd, Nat.reduceLT, Nat.reduceLeDiff, Nat.reduceSub])
        | (refine aol_guard_b (by rfl) (by rfl) (fun h => ?_) (fun h => ?_) <;> (try simp only [Bool.and_eq_true, Bool.and_eq_false_iff, Bool.or_eq_true, Bool.or_eq_false_iff, List.all_cons, List.all_nil, Bool.and_true, beq_self_eq_true, beq_iff_eq, beq_eq_false_iff_ne, ne_eq, decide_true, decide_false, not_true_eq_false, not_false_eq_true, decide_eq_true_eq, decide_eq_false_iff_not, Bool.not_true, Bool.not_false, Bool.not_eq_true', Bool.not_eq_false', Int.not_le, Int.not_lt, reduceCtorEq, inR_iff, inR_not, isSet_iff, isSet_not] at h) <;> simp (config := { maxSteps := 2000000 }) (disch := omega) only [go_sem, ↓reduceIte, Nat.reduceEqDiff, Nat.reduceAdd, Nat.reduceLT, Nat.reduceLeDiff, Nat.reduceSub])
        | simp (config := { maxSteps := 2000000 }) (disch := omega) only [go_sem, ↓reduceIte, Nat.reduceEqDiff, Nat.reduceAdd, Nat.reduceLT, Nat.reduceLeDiff, Nat.reduceSub])
    | ((with_reducible refine hK _ ?_); clear hK K; try simp only [thn_n, blk_n, fin_n, finm_n])
    | (with_reducible refine awp_seq fun K hK => ?_)
    | ((with_reducible show Awp _ _ (Code.region _ _ _) _ _); first
        | (refine awp_regK (by repeat constructor) (fun K hK => ?_); simp (config := { maxSteps := 2000000 }) (disch := omega) only [go_sem, ↓reduceIte, Nat.reduceEqDiff, Nat.reduceAdd, Nat.reduceLT, Nat.reduceLeDiff, Nat.reduceSub])
        | (refine awp_drwK (by kernel_rfl) (by repeat constructor) (fun K hK => ?_); simp (config := { maxSteps := 2000000 }) (disch := omega) only [go_sem, ↓reduceIte, Nat.reduceEqDiff, Nat.reduceAdd, Nat.reduceLT, Nat.reduceLeDiff, Nat.reduceSub]))
    | ((with_reducible show Awp _ _ (Code.cond _ _ _) _ _); refine awp_cond rfl (fun h => ?_) (fun h => ?_) <;> (try simp only [Bool.and_eq_true, Bool.and_eq_false_iff, Bool.or_eq_true, Bool.or_eq_false_iff, List.all_cons, List.all_nil, Bool.and_true, beq_self_eq_true, beq_iff_eq, beq_eq_false_iff_ne, ne_eq, decide_true, decide_false, not_true_eq_false, not_false_eq_true, decide_eq_true_eq, decide_eq_false_iff_not, Bool.not_true, Bool.not_false, Bool.not_eq_true', Bool.not_eq_false', Int.not_le, Int.not_lt, reduceCtorEq, inR_iff, inR_not, isSet_iff, isSet_not] at h))
    | ((with_reducible refine awp_skip ?_); simp only [thn_n, blk_n, fin_n, finm_n])
    | ((with_reducible refine awp_ret ?_); simp only [thn_r, blk_r, fin_r, finm_r])
    | (with_reducible refine awp_block ?_)
    | ((with_reducible refine awp_exit ?_); simp only [thn_e, blk_e, blk_x, blk_n, thn_n, ne_eq, not_false_eq_true, Nat.reduceEqDiff, reduceCtorEq]; first | (refine hK _ ?_; clear hK K) | (clear hK K; refine hK _ ?_; clear hK K) | (clear hK K; clear hK K; refine hK _ ?_; clear hK K) | (clear hK K; clear hK K; clear hK K; refine hK _ ?_; clear hK K) | skip)
    | (with_reducible apply And.intro)
    | (with_reducible exact True.intro)
    | ((with_reducible show List.all _ _ = true); rfl)
    | ((with_reducible show lendOk _ _ = true); rfl)
    | omega
    | ((first | (with_reducible show ¬ _) | (with_reducible show _ → _)); intro h; first | contradiction | cases h; done | skip)
  all_goals (try (first | refine fin_keep ?_ | refine finm_keep ?_; repeat clear hK))
  all_goals (refine fin_tmp rfl ?_; simp only [nth_zero, nth_succ, inR]; simp [*])
  all_goals omega

theorem specChoose_ok : Fits Try.prog 15 tChoose := by
  refine ⟨callable_of Try.func15 (by kernel_rfl) rfl, ?_⟩
  intro args p out Ho h hp
  unfold tChoose at h
  split at h <;> cases h
  rename_i n k
  refine ⟨acall_by (env_ok (env := [(62, tWithin)]) (by simp only [List.forall_mem_cons, List.not_mem_nil, false_implies, implies_true, and_true]; exact specIn_ok)) Try.func15 rfl rfl rfl rfl rfl ?_, rfl, rfl⟩
  intro hlen c hc hX
  simp only [lensOk, AV.lenOk, true_and, and_true] at hlen
  simp only [Try.ntmps15, Try.results15, List.length_cons, List.length_nil, List.replicate, List.cons_append, List.nil_append, Nat.reduceAdd, Nat.reduceSub]
  repeat' first
    | ((with_reducible show aol _ _ _ _ _); first
        | (refine aol_guard_f (by rfl) ?_ ?_; (focus (simp only [go_sem]; done)))
        | (refine aol_guard_un (by rfl) ?_ ?_; (focus (simp only [go_sem]; done)))
        | (refine aol_guard_t (by rfl) ?_ ?_; (focus (simp only [go_sem]; done)); simp (config := { maxSteps := 2000000 }) (disch := omega) only [go_sem, ↓reduceIte, Nat.reduceEqDiff, Nat.reduceAdd, Nat.reduceLT, Nat.reduceLeDiff, Nat.reduceSub, tWithin])
        | (refine aol_guard_b (by rfl) (by rfl) (fun h => ?_) (fun h => ?_) <;> (try simp only [Bool.and_eq_true, Bool.and_eq_false_iff, Bool.or_eq_true, Bool.or_eq_false_iff, List.all_cons, List.all_nil, Bool.and_true, beq_self_eq_true, beq_iff_eq, beq_eq_false_iff_ne, ne_eq, decide_true, decide_false, not_true_eq_false, not_false_eq_true, decide_eq_true_eq, decide_eq_false_iff_not, Bool.not_true, Bool.not_false, Bool.not_eq_true', Bool.not_eq_false', Int.not_le, Int.not_lt, reduceCtorEq, inR_iff, inR_not, isSet_iff, isSet_not] at h) <;> simp (config := { maxSteps := 2000000 }) (disch := omega) only [go_sem, ↓reduceIte, Nat.reduceEqDiff, Nat.reduceAdd, Nat.reduceLT, Nat.reduceLeDiff, Nat.reduceSub, tWithin])
        | simp (config := { maxSteps := 2000000 }) (disch := omega) only [go_sem, ↓reduceIte, Nat.reduceEqDiff, Nat.reduceAdd, Nat.reduceLT, Nat.reduceLeDiff, Nat.reduceSub, tWithin])
    | ((with_reducible refine hK _ ?_); clear hK K; try simp only [thn_n, blk_n, fin_n, finm_n])
    | (with_reducible refine awp_seq fun K hK => ?_)
    | ((with_reducible show Awp _ _ (Code.region _ _ _) _ _); first
        | (refine awp_regK (by repeat constructor) (fun K hK => ?_); simp (config := { maxSteps := 2000000 }) (disch := omega) only [go_sem, ↓reduceIte, Nat.reduceEqDiff, Nat.reduceAdd, Nat.reduceLT, Nat.reduceLeDiff, Nat.reduceSub, tWithin])
        | (refine awp_drwK (by kernel_rfl) (by repeat constructor) (fun K hK => ?_); simp (config := { maxSteps := 2000000 }) (disch := omega) only [go_sem, ↓reduceIte, Nat.reduceEqDiff, Nat.reduceAdd, Nat.reduceLT, Nat.reduceLeDiff, Nat.reduceSub, tWithin]))
    | ((with_reducible show Awp _ _ (Code.cond _ _ _) _ _); refine awp_cond rfl (fun h => ?_) (fun h => ?_) <;> (try simp only [Bool.and_eq_true, Bool.and_eq_false_iff, Bool.or_eq_true, Bool.or_eq_false_iff, List.all_cons, List.all_nil, Bool.and_true, beq_self_eq_true, beq_iff_eq, beq_eq_false_iff_ne, ne_eq, decide_true, decide_false, not_true_eq_false, not_false_eq_true, decide_eq_true_eq, decide_eq_false_iff_not, Bool.not_true, Bool.not_false, Bool.not_eq_true', Bool.not_eq_false', Int.not_le, Int.not_lt, reduceCtorEq, inR_iff, inR_not, isSet_iff, isSet_not] at h))
    | ((with_reducible refine awp_skip ?_); simp only [thn_n, blk_n, fin_n, finm_n])
    | ((with_reducible refine awp_ret ?_); simp only [thn_r, blk_r, fin_r, finm_r])
    | (with_reducible refine awp_block ?_)
    | ((with_reducible refine awp_exit ?_); simp only [thn_e, blk_e, blk_x, blk_n, thn_n, ne_eq, not_false_eq_true, Nat.reduceEqDiff, reduceCtorEq]; first | (refine hK _ ?_; clear hK K) | (clear hK K; refine hK _ ?_; clear hK K) | (clear hK K; clear hK K; refine hK _ ?_; clear hK K) | (clear hK K; clear hK K; clear hK K; refine hK _ ?_; clear hK K) | skip)
    | (with_reducible apply And.intro)
    | (with_reducible exact True.intro)
    | ((with_reducible show List.all _ _ = true); rfl)
    | ((with_reducible show lendOk _ _ = true); rfl)
    | omega
    | ((first | (with_reducible show ¬ _) | (with_reducible show _ → _)); intro h; first | contradiction | cases h; done | skip)
  all_goals (try (first | refine fin_keep ?_ | refine finm_keep ?_; repeat clear hK))
  · refine fin_tmp rfl ?_; simp only [nth_zero, nth_succ]; rw [if_neg (by rw [inR_iff]; omega)]
  · refine fin_tmp rfl ?_; simp only [nth_zero, nth_succ]; rw [if_pos (by rw [inR_iff]; omega), chV, if_neg (by omega)]
  refine awp_for (fun s (i : Nat) => s.at [0, 1] [(5, .i (bn (n.toNat - k.toNat + i) i)), (6, .i (i + 1 : Nat))] s.hp) (fun i => (i : Int) ≤ k) (fun i => k.toNat - i) 0 (by omega) ?_ ?_
  · simp [-List.getD_eq_getElem?_getD, -List.length_take, Le, leFr, ASt.at, keepFr, updAll, upd_zero, upd_succ, bn_zero]
  rintro i hi
  simp only [ASt.at, keepFr, updAll, upd_zero, upd_succ, List.mem_cons, List.not_mem_nil, Nat.reduceEqDiff, Nat.reduceAdd, or_false, or_true, false_or, true_or, ↓reduceIte, eq_self]
  have hb := bn_le20 (n := n.toNat - k.toNat + i) (i := i) (by omega)
  have hs := bn_absorb (n.toNat - k.toNat + i) i
  have hm := mul_bd (a := bn (n.toNat - k.toNat + i) i) (A := 1048576) (b := n - k + ((i + 1 : Nat) : Int)) (B := 21) (by omega) (by omega) (by omega) (by omega)
  have hq : ((bn (n.toNat - k.toNat + i) i : Int) * (n - k + ((i + 1 : Nat) : Int))).tdiv ((i + 1 : Nat) : Int) = bn (n.toNat - k.toNat + (i + 1)) (i + 1) := by
    refine tdiv_of ?_ (by omega)
    have e : n - k + ((i + 1 : Nat) : Int) = ((n.toNat - k.toNat + i + 1 : Nat) : Int) := by omega
    rw [e, ← Int.natCast_mul, ← Int.natCast_mul, Nat.mul_comm, ← hs, Nat.mul_comm]
    rfl
  have hb' := fun (h : (i : Int) < k) => bn_le20 (n := n.toNat - k.toNat + (i + 1)) (i := i + 1) (by omega)
  repeat' first
    | ((with_reducible show aol _ _ _ _ _); first
        | (refine aol_guard_f (by rfl) ?_ ?_; (focus (simp only [go_sem]; done)))
        | (refine aol_guard_un (by rfl) ?_ ?_; (focus (simp only [go_sem]; done)))
        | (refine aol_guard_t (by rfl) ?_ ?_; (focus (simp only [go_sem]; done)); simp (config := { maxSteps := 2000000 }) (disch := omega) only [go_sem, ↓reduceIte, Nat.reduceEqDiff, Nat.reduceAdd, Nat.reduceLT, Nat.reduceLeDiff, Nat.reduceSub, hq])
        | (refine aol_guard_b (by rfl) (by rfl) (fun h => ?_) (fun h => ?_) <;> (try simp only [Bool.and_eq_true, Bool.and_eq_false_iff, Bool.or_eq_true, Bool.or_eq_false_iff, List.all_cons, List.all_nil, Bool.and_true, beq_self_eq_true, beq_iff_eq, beq_eq_false_iff_ne, ne_eq, decide_true, decide_false, not_true_eq_false, not_false_eq_true, decide_eq_true_eq, decide_eq_false_iff_not, Bool.not_true, Bool.not_false, Bool.not_eq_true', Bool.not_eq_false', Int.not_le, Int.not_lt, reduceCtorEq, inR_iff, inR_not, isSet_iff, isSet_not] at h) <;> simp (config := { maxSteps := 2000000 }) (disch := omega) only [go_sem, ↓reduceIte, Nat.reduceEqDiff, Nat.reduceAdd, Nat.reduceLT, Nat.reduceLeDiff, Nat.reduceSub, hq])
        | simp (config := { maxSteps := 2000000 }) (disch := omega) only [go_sem, ↓reduceIte, Nat.reduceEqDiff, Nat.reduceAdd, Nat.reduceLT, Nat.reduceLeDiff, Nat.reduceSub, hq])
    | ((with_reducible refine hK _ ?_); clear hK K; try simp only [thn_n, blk_n, fin_n, finm_n])
    | (with_reducible refine awp_seq fun K hK => ?_)
    | ((with_reducible show Awp _ _ (Code.region _ _ _) _ _); first
        | (refine awp_regK (by repeat constructor) (fun K hK => ?_); simp (config := { maxSteps := 2000000 }) (disch := omega) only [go_sem, ↓reduceIte, Nat.reduceEqDiff, Nat.reduceAdd, Nat.reduceLT, Nat.reduceLeDiff, Nat.reduceSub, hq])
        | (refine awp_drwK (by kernel_rfl) (by repeat constructor) (fun K hK => ?_); simp (config := { maxSteps := 2000000 }) (disch := omega) only [go_sem, ↓reduceIte, Nat.reduceEqDiff, Nat.reduceAdd, Nat.reduceLT, Nat.reduceLeDiff, Nat.reduceSub, hq]))
    | ((with_reducible show Awp _ _ (Code.cond _ _ _) _ _); refine awp_cond rfl (fun h => ?_) (fun h => ?_) <;> (try simp only [Bool.and_eq_true, Bool.and_eq_false_iff, Bool.or_eq_true, Bool.or_eq_false_iff, List.all_cons, List.all_nil, Bool.and_true, beq_self_eq_true, beq_iff_eq, beq_eq_false_iff_ne, ne_eq, decide_true, decide_false, not_true_eq_false, not_false_eq_true, decide_eq_true_eq, decide_eq_false_iff_not, Bool.not_true, Bool.not_false, Bool.not_eq_true', Bool.not_eq_false', Int.not_le, Int.not_lt, reduceCtorEq, inR_iff, inR_not, isSet_iff, isSet_not] at h))
    | ((with_reducible refine awp_skip ?_); simp only [thn_n, blk_n, fin_n, finm_n])
    | ((with_reducible refine awp_ret ?_); simp only [thn_r, blk_r, fin_r, finm_r])
    | (with_reducible refine awp_block ?_)
    | ((with_reducible refine awp_exit ?_); simp only [thn_e, blk_e, blk_x, blk_n, thn_n, ne_eq, not_false_eq_true, Nat.reduceEqDiff, reduceCtorEq]; first | (refine hK _ ?_; clear hK K) | (clear hK K; refine hK _ ?_; clear hK K) | (clear hK K; clear hK K; refine hK _ ?_; clear hK K) | (clear hK K; clear hK K; clear hK K; refine hK _ ?_; clear hK K) | skip)
    | (with_reducible apply And.intro)
    | (with_reducible exact True.intro)
    | ((with_reducible show List.all _ _ = true); rfl)
    | ((with_reducible show lendOk _ _ = true); rfl)
    | omega
    | ((first | (with_reducible show ¬ _) | (with_reducible show _ → _)); intro h; first | contradiction | cases h; done | skip)
  all_goals (try (first | refine fin_keep ?_ | refine finm_keep ?_; repeat clear hK))
  · refine ⟨i + 1, by omega, by omega, ?_⟩
    simp [-List.getD_eq_getElem?_getD, -List.length_take, Le, leFr, ASt.at, keepFr, updAll, upd_zero, upd_succ]
  · obtain rfl : k = i := by omega
    repeat' first
      | ((with_reducible show aol _ _ _ _ _); first
          | (refine aol_guard_f (by rfl) ?_ ?_; (focus (simp only [go_sem]; done)))
          | (refine aol_guard_un (by rfl) ?_ ?_; (focus (simp only [go_sem]; done)))
          | (refine aol_guard_t (by rfl) ?_ ?_; (focus (simp only [go_sem]; done)); simp (config := { maxSteps := 2000000 }) (disch := omega) only [go_sem, ↓reduceIte, Nat.reduceEqDiff, Nat.reduceAdd, Nat.reduceLT, Nat.reduceLeDiff, Nat.reduceSub])
          | (refine aol_guard_b (by rfl) (by rfl) (fun h => ?_) (fun h => ?_) <;> (try simp only [Bool.and_eq_true, Bool.and_eq_false_iff, Bool.or_eq_true, Bool.or_eq_false_iff, List.all_cons, List.all_nil, Bool.and_true, beq_self_eq_true, beq_iff_eq, beq_eq_false_iff_ne, ne_eq, decide_true, decide_false, not_true_eq_false, not_false_eq_true, decide_eq_true_eq, decide_eq_false_iff_not, Bool.not_true, Bool.not_false, Bool.not_eq_true', Bool.not_eq_false', Int.not_le, Int.not_lt, reduceCtorEq, inR_iff, inR_not, isSet_iff, isSet_not] at h) <;> simp (config := { maxSteps := 2000000 }) (disch := omega) only [go_sem, ↓reduceIte, Nat.reduceEqDiff, Nat.reduceAdd, Nat.reduceLT, Nat.reduceLeDiff, Nat.reduceSub])
          | simp (config := { maxSteps := 2000000 }) (disch := omega) only [go_sem, ↓reduceIte, Nat.reduceEqDiff, Nat.reduceAdd, Nat.reduceLT, Nat.reduceLeDiff, Nat.reduceSub])
      | ((with_reducible refine hK _ ?_); clear hK K; try simp only [thn_n, blk_n, fin_n, finm_n])
      | (with_reducible refine awp_seq fun K hK => ?_)
      | ((with_reducible show Awp _ _ (Code.region _ _ _) _ _); first
          | (refine awp_regK (by repeat constructor) (fun K hK => ?_); simp (config := { maxSteps := 2000000 }) (disch := omega) only [go_sem, ↓reduceIte, Nat.reduceEqDiff, Nat.reduceAdd, Nat.reduceLT, Nat.reduceLeDiff, Nat.reduceSub])
          | (refine awp_drwK (by kernel_rfl) (by repeat constructor) (fun K hK => ?_); simp (config := { maxSteps := 2000000 }) (disch := omega) only [go_sem, ↓reduceIte, Nat.reduceEqDiff, Nat.reduceAdd, Nat.reduceLT, Nat.reduceLeDiff, Nat.reduceSub]))
      | ((with_reducible show Awp _ _ (Code.cond _ _ _) _ _); refine awp_cond rfl (fun h => ?_) (fun h => ?_) <;> (try simp only [Bool.and_eq_true, Bool.and_eq_false_iff, Bool.or_eq_true, Bool.or_eq_false_iff, List.all_cons, List.all_nil, Bool.and_true, beq_self_eq_true, beq_iff_eq, beq_eq_false_iff_ne, ne_eq, decide_true, decide_false, not_true_eq_false, not_false_eq_true, decide_eq_true_eq, decide_eq_false_iff_not, Bool.not_true, Bool.not_false, Bool.not_eq_true', Bool.not_eq_false', Int.not_le, Int.not_lt, reduceCtorEq, inR_iff, inR_not, isSet_iff, isSet_not] at h))
      | ((with_reducible refine awp_skip ?_); simp only [thn_n, blk_n, fin_n, finm_n])
      | ((with_reducible refine awp_ret ?_); simp only [thn_r, blk_r, fin_r, finm_r])
      | (with_reducible refine awp_block ?_)
      | ((with_reducible refine awp_exit ?_); simp only [thn_e, blk_e, blk_x, blk_n, thn_n, ne_eq, not_false_eq_true, Nat.reduceEqDiff, reduceCtorEq]; first | (refine hK _ ?_; clear hK K) | (clear hK K; refine hK _ ?_; clear hK K) | (clear hK K; clear hK K; refine hK _ ?_; clear hK K) | (clear hK K; clear hK K; clear hK K; refine hK _ ?_; clear hK K) | skip)
      | (with_reducible apply And.intro)
      | (with_reducible exact True.intro)
      | ((with_reducible show List.all _ _ = true); rfl)
      | ((with_reducible show lendOk _ _ = true); rfl)
      | omega
      | ((first | (with_reducible show ¬ _) | (with_reducible show _ → _)); intro h; first | contradiction | cases h; done | skip)
    all_goals (try (first | refine fin_keep ?_ | refine finm_keep ?_; repeat clear hK))
    refine fin_tmp rfl ?_; simp only [nth_zero, nth_succ, chV]; rw [if_pos (by rw [inR_iff]; omega), if_pos (by omega)]
    congr 4; omega

/-- The sum of the first binomial numbers. -/
def sau (n : Int) : Nat → Int
  | 0 => 0
  | i + 1 => sau n i + chV n i
theorem sau_bd {n : Int} (h : n ≤ 20) : ∀ {i : Nat}, 0 ≤ sau n i ∧ sau n i ≤ 1048576 * i
  | 0 => by simp [sau]
  | i + 1 => by
    have := sau_bd h (i := i)
    have := chV_bd (k := i) h
    simp only [sau]; omega
def tSauer : Tab
  | [.i n, .i d] => some (True, .i (if inR n 0 20 && inR d (-1) 20 then sau n (d + 1).toNat else -1), [])
  | _ => none

theorem specSauer_ok : Fits Try.prog 19 tSauer := by
  refine ⟨callable_of Try.func19 (by kernel_rfl) rfl, ?_⟩
  intro args p out Ho h hp
  unfold tSauer at h
  split at h <;> cases h
  rename_i n d
  refine ⟨acall_by (env_ok (env := [(62, tWithin), (15, tChoose)]) (by simp only [List.forall_mem_cons, List.not_mem_nil, false_implies, implies_true, and_true]; exact ⟨specIn_ok, specChoose_ok⟩)) Try.func19 rfl rfl rfl rfl rfl ?_, rfl, rfl⟩
  intro hlen c hc hX
  simp only [lensOk, AV.lenOk, true_and, and_true] at hlen
  simp only [Try.ntmps19, Try.results19, List.length_cons, List.length_nil, List.replicate, List.cons_append, List.nil_append, Nat.reduceAdd, Nat.reduceSub]
  repeat' first
    | ((with_reducible show aol _ _ _ _ _); first
        | (refine aol_guard_f (by rfl) ?_ ?_; (focus (simp only [go_sem]; done)))
        | (refine aol_guard_un (by rfl) ?_ ?_; (focus (simp only [go_sem]; done)))
        | (refine aol_guard_t (by rfl) ?_ ?_; (focus (simp only [go_sem]; done)); simp (config := { maxSteps := 2000000 }) (disch := omega) only [go_sem, ↓reduceIte, Nat.reduceEqDiff, Nat.reduceAdd, Nat.reduceLT, Nat.reduceLeDiff, Nat.reduceSub, tWithin])
        | (refine aol_guard_b (by rfl) (by rfl) (fun h => ?_) (fun h => ?_) <;> (try simp only [Bool.and_eq_true, Bool.and_eq_false_iff, Bool.or_eq_true, Bool.or_eq_false_iff, List.all_cons, List.all_nil, Bool.and_true, beq_self_eq_true, beq_iff_eq, beq_eq_false_iff_ne, ne_eq, decide_true, decide_false, not_true_eq_false, not_false_eq_true, decide_eq_true_eq, decide_eq_false_iff_not, Bool.not_true, Bool.not_false, Bool.not_eq_true', Bool.not_eq_false', Int.not_le, Int.not_lt, reduceCtorEq, inR_iff, inR_not, isSet_iff, isSet_not] at h) <;> simp (config := { maxSteps := 2000000 }) (disch := omega) only [go_sem, ↓reduceIte, Nat.reduceEqDiff, Nat.reduceAdd, Nat.reduceLT, Nat.reduceLeDiff, Nat.reduceSub, tWithin])
        | simp (config := { maxSteps := 2000000 }) (disch := omega) only [go_sem, ↓reduceIte, Nat.reduceEqDiff, Nat.reduceAdd, Nat.reduceLT, Nat.reduceLeDiff, Nat.reduceSub, tWithin])
    | ((with_reducible refine hK _ ?_); clear hK K; try simp only [thn_n, blk_n, fin_n, finm_n])
    | (with_reducible refine awp_seq fun K hK => ?_)
    | ((with_reducible show Awp _ _ (Code.region _ _ _) _ _); first
        | (refine awp_regK (by repeat constructor) (fun K hK => ?_); simp (config := { maxSteps := 2000000 }) (disch := omega) only [go_sem, ↓reduceIte, Nat.reduceEqDiff, Nat.reduceAdd, Nat.reduceLT, Nat.reduceLeDiff, Nat.reduceSub, tWithin])
        | (refine awp_drwK (by kernel_rfl) (by repeat constructor) (fun K hK => ?_); simp (config := { maxSteps := 2000000 }) (disch := omega) only [go_sem, ↓reduceIte, Nat.reduceEqDiff, Nat.reduceAdd, Nat.reduceLT, Nat.reduceLeDiff, Nat.reduceSub, tWithin]))
    | ((with_reducible show Awp _ _ (Code.cond _ _ _) _ _); refine awp_cond rfl (fun h => ?_) (fun h => ?_) <;> (try simp only [Bool.and_eq_true, Bool.and_eq_false_iff, Bool.or_eq_true, Bool.or_eq_false_iff, List.all_cons, List.all_nil, Bool.and_true, beq_self_eq_true, beq_iff_eq, beq_eq_false_iff_ne, ne_eq, decide_true, decide_false, not_true_eq_false, not_false_eq_true, decide_eq_true_eq, decide_eq_false_iff_not, Bool.not_true, Bool.not_false, Bool.not_eq_true', Bool.not_eq_false', Int.not_le, Int.not_lt, reduceCtorEq, inR_iff, inR_not, isSet_iff, isSet_not] at h))
    | ((with_reducible refine awp_skip ?_); simp only [thn_n, blk_n, fin_n, finm_n])
    | ((with_reducible refine awp_ret ?_); simp only [thn_r, blk_r, fin_r, finm_r])
    | (with_reducible refine awp_block ?_)
    | ((with_reducible refine awp_exit ?_); simp only [thn_e, blk_e, blk_x, blk_n, thn_n, ne_eq, not_false_eq_true, Nat.reduceEqDiff, reduceCtorEq]; first | (refine hK _ ?_; clear hK K) | (clear hK K; refine hK _ ?_; clear hK K) | (clear hK K; clear hK K; refine hK _ ?_; clear hK K) | (clear hK K; clear hK K; clear hK K; refine hK _ ?_; clear hK K) | skip)
    | (with_reducible apply And.intro)
    | (with_reducible exact True.intro)
    | ((with_reducible show List.all _ _ = true); rfl)
    | ((with_reducible show lendOk _ _ = true); rfl)
    | omega
    | ((first | (with_reducible show ¬ _) | (with_reducible show _ → _)); intro h; first | contradiction | cases h; done | skip)
  all_goals (try (first | refine fin_keep ?_ | refine finm_keep ?_; repeat clear hK))
  · refine fin_tmp rfl ?_; simp only [nth_zero, nth_succ]; rw [if_neg (by rw [Bool.and_eq_true, inR_iff, inR_iff]; omega)]
  rotate_left
  · refine fin_tmp rfl ?_; simp only [nth_zero, nth_succ]; rw [if_neg (by rw [Bool.and_eq_true, inR_iff, inR_iff]; omega)]
  rename_i hin hid
  refine awp_for (fun s (i : Nat) => s.at [0, 1] [(5, .i (sau n i)), (6, .i i)] s.hp) (fun i => (i : Int) ≤ d + 1) (fun i => (d + 1).toNat - i) 0 (by omega) ?_ ?_
  · simp [-List.getD_eq_getElem?_getD, -List.length_take, Le, leFr, ASt.at, keepFr, updAll, upd_zero, upd_succ, sau]
  rintro i hi
  simp only [ASt.at, keepFr, updAll, upd_zero, upd_succ, List.mem_cons, List.not_mem_nil, Nat.reduceEqDiff, Nat.reduceAdd, or_false, or_true, false_or, true_or, ↓reduceIte, eq_self]
  have hb := sau_bd (n := n) (by omega) (i := i)
  have hc' := chV_bd (n := n) (k := i) (by omega)
  have hin' : (0 ≤ n ∧ n ≤ 20) = True := by simp only [eq_iff_iff, iff_true]; omega
  repeat' first
    | ((with_reducible show aol _ _ _ _ _); first
        | (refine aol_guard_f (by rfl) ?_ ?_; (focus (simp only [go_sem]; done)))
        | (refine aol_guard_un (by rfl) ?_ ?_; (focus (simp only [go_sem]; done)))
        | (refine aol_guard_t (by rfl) ?_ ?_; (focus (simp only [go_sem]; done)); simp (config := { maxSteps := 2000000 }) (disch := omega) only [go_sem, ↓reduceIte, Nat.reduceEqDiff, Nat.reduceAdd, Nat.reduceLT, Nat.reduceLeDiff, Nat.reduceSub, tWithin, tChoose, hin'])
        | (refine aol_guard_b (by rfl) (by rfl) (fun h => ?_) (fun h => ?_) <;> (try simp only [Bool.and_eq_true, Bool.and_eq_false_iff, Bool.or_eq_true, Bool.or_eq_false_iff, List.all_cons, List.all_nil, Bool.and_true, beq_self_eq_true, beq_iff_eq, beq_eq_false_iff_ne, ne_eq, decide_true, decide_false, not_true_eq_false, not_false_eq_true, decide_eq_true_eq, decide_eq_false_iff_not, Bool.not_true, Bool.not_false, Bool.not_eq_true', Bool.not_eq_false', Int.not_le, Int.not_lt, reduceCtorEq, inR_iff, inR_not, isSet_iff, isSet_not] at h) <;> simp (config := { maxSteps := 2000000 }) (disch := omega) only [go_sem, ↓reduceIte, Nat.reduceEqDiff, Nat.reduceAdd, Nat.reduceLT, Nat.reduceLeDiff, Nat.reduceSub, tWithin, tChoose, hin'])
        | simp (config := { maxSteps := 2000000 }) (disch := omega) only [go_sem, ↓reduceIte, Nat.reduceEqDiff, Nat.reduceAdd, Nat.reduceLT, Nat.reduceLeDiff, Nat.reduceSub, tWithin, tChoose, hin'])
    | ((with_reducible refine hK _ ?_); clear hK K; try simp only [thn_n, blk_n, fin_n, finm_n])
    | (with_reducible refine awp_seq fun K hK => ?_)
    | ((with_reducible show Awp _ _ (Code.region _ _ _) _ _); first
        | (refine awp_regK (by repeat constructor) (fun K hK => ?_); simp (config := { maxSteps := 2000000 }) (disch := omega) only [go_sem, ↓reduceIte, Nat.reduceEqDiff, Nat.reduceAdd, Nat.reduceLT, Nat.reduceLeDiff, Nat.reduceSub, tWithin, tChoose, hin'])
        | (refine awp_drwK (by kernel_rfl) (by repeat constructor) (fun K hK => ?_); simp (config := { maxSteps := 2000000 }) (disch := omega) only [go_sem, ↓reduceIte, Nat.reduceEqDiff, Nat.reduceAdd, Nat.reduceLT, Nat.reduceLeDiff, Nat.reduceSub, tWithin, tChoose, hin']))
    | ((with_reducible show Awp _ _ (Code.cond _ _ _) _ _); refine awp_cond rfl (fun h => ?_) (fun h => ?_) <;> (try simp only [Bool.and_eq_true, Bool.and_eq_false_iff, Bool.or_eq_true, Bool.or_eq_false_iff, List.all_cons, List.all_nil, Bool.and_true, beq_self_eq_true, beq_iff_eq, beq_eq_false_iff_ne, ne_eq, decide_true, decide_false, not_true_eq_false, not_false_eq_true, decide_eq_true_eq, decide_eq_false_iff_not, Bool.not_true, Bool.not_false, Bool.not_eq_true', Bool.not_eq_false', Int.not_le, Int.not_lt, reduceCtorEq, inR_iff, inR_not, isSet_iff, isSet_not] at h))
    | ((with_reducible refine awp_skip ?_); simp only [thn_n, blk_n, fin_n, finm_n])
    | ((with_reducible refine awp_ret ?_); simp only [thn_r, blk_r, fin_r, finm_r])
    | (with_reducible refine awp_block ?_)
    | ((with_reducible refine awp_exit ?_); simp only [thn_e, blk_e, blk_x, blk_n, thn_n, ne_eq, not_false_eq_true, Nat.reduceEqDiff, reduceCtorEq]; first | (refine hK _ ?_; clear hK K) | (clear hK K; refine hK _ ?_; clear hK K) | (clear hK K; clear hK K; refine hK _ ?_; clear hK K) | (clear hK K; clear hK K; clear hK K; refine hK _ ?_; clear hK K) | skip)
    | (with_reducible apply And.intro)
    | (with_reducible exact True.intro)
    | ((with_reducible show List.all _ _ = true); rfl)
    | ((with_reducible show lendOk _ _ = true); rfl)
    | omega
    | ((first | (with_reducible show ¬ _) | (with_reducible show _ → _)); intro h; first | contradiction | cases h; done | skip)
  all_goals (try (first | refine fin_keep ?_ | refine finm_keep ?_; repeat clear hK))
  · refine ⟨i + 1, by omega, by omega, ?_⟩
    simp [-List.getD_eq_getElem?_getD, -List.length_take, Le, leFr, ASt.at, keepFr, updAll, upd_zero, upd_succ, sau, hin']
  · obtain rfl : d = i - 1 := by omega
    repeat' first
      | ((with_reducible show aol _ _ _ _ _); first
          | (refine aol_guard_f (by rfl) ?_ ?_; (focus (simp only [go_sem]; done)))
          | (refine aol_guard_un (by rfl) ?_ ?_; (focus (simp only [go_sem]; done)))
          | (refine aol_guard_t (by rfl) ?_ ?_; (focus (simp only [go_sem]; done)); simp (config := { maxSteps := 2000000 }) (disch := omega) only [go_sem, ↓reduceIte, Nat.reduceEqDiff, Nat.reduceAdd, Nat.reduceLT, Nat.reduceLeDiff, Nat.reduceSub])
          | (refine aol_guard_b (by rfl) (by rfl) (fun h => ?_) (fun h => ?_) <;> (try simp only [Bool.and_eq_true, Bool.and_eq_false_iff, Bool.or_eq_true, Bool.or_eq_false_iff, List.all_cons, List.all_nil, Bool.and_true, beq_self_eq_true, beq_iff_eq, beq_eq_false_iff_ne, ne_eq, decide_true, decide_false, not_true_eq_false, not_false_eq_true, decide_eq_true_eq, decide_eq_false_iff_not, Bool.not_true, Bool.not_false, Bool.not_eq_true', Bool.not_eq_false', Int.not_le, Int.not_lt, reduceCtorEq, inR_iff, inR_not, isSet_iff, isSet_not] at h) <;> simp (config := { maxSteps := 2000000 }) (disch := omega) only [go_sem, ↓reduceIte, Nat.reduceEqDiff, Nat.reduceAdd, Nat.reduceLT, Nat.reduceLeDiff, Nat.reduceSub])
          | simp (config := { maxSteps := 2000000 }) (disch := omega) only [go_sem, ↓reduceIte, Nat.reduceEqDiff, Nat.reduceAdd, Nat.reduceLT, Nat.reduceLeDiff, Nat.reduceSub])
      | ((with_reducible refine hK _ ?_); clear hK K; try simp only [thn_n, blk_n, fin_n, finm_n])
      | (with_reducible refine awp_seq fun K hK => ?_)
      | ((with_reducible show Awp _ _ (Code.region _ _ _) _ _); first
          | (refine awp_regK (by repeat constructor) (fun K hK => ?_); simp (config := { maxSteps := 2000000 }) (disch := omega) only [go_sem, ↓reduceIte, Nat.reduceEqDiff, Nat.reduceAdd, Nat.reduceLT, Nat.reduceLeDiff, Nat.reduceSub])
          | (refine awp_drwK (by kernel_rfl) (by repeat constructor) (fun K hK => ?_); simp (config := { maxSteps := 2000000 }) (disch := omega) only [go_sem, ↓reduceIte, Nat.reduceEqDiff, Nat.reduceAdd, Nat.reduceLT, Nat.reduceLeDiff, Nat.reduceSub]))
      | ((with_reducible show Awp _ _ (Code.cond _ _ _) _ _); refine awp_cond rfl (fun h => ?_) (fun h => ?_) <;> (try simp only [Bool.and_eq_true, Bool.and_eq_false_iff, Bool.or_eq_true, Bool.or_eq_false_iff, List.all_cons, List.all_nil, Bool.and_true, beq_self_eq_true, beq_iff_eq, beq_eq_false_iff_ne, ne_eq, decide_true, decide_false, not_true_eq_false, not_false_eq_true, decide_eq_true_eq, decide_eq_false_iff_not, Bool.not_true, Bool.not_false, Bool.not_eq_true', Bool.not_eq_false', Int.not_le, Int.not_lt, reduceCtorEq, inR_iff, inR_not, isSet_iff, isSet_not] at h))
      | ((with_reducible refine awp_skip ?_); simp only [thn_n, blk_n, fin_n, finm_n])
      | ((with_reducible refine awp_ret ?_); simp only [thn_r, blk_r, fin_r, finm_r])
      | (with_reducible refine awp_block ?_)
      | ((with_reducible refine awp_exit ?_); simp only [thn_e, blk_e, blk_x, blk_n, thn_n, ne_eq, not_false_eq_true, Nat.reduceEqDiff, reduceCtorEq]; first | (refine hK _ ?_; clear hK K) | (clear hK K; refine hK _ ?_; clear hK K) | (clear hK K; clear hK K; refine hK _ ?_; clear hK K) | (clear hK K; clear hK K; clear hK K; refine hK _ ?_; clear hK K) | skip)
      | (with_reducible apply And.intro)
      | (with_reducible exact True.intro)
      | ((with_reducible show List.all _ _ = true); rfl)
      | ((with_reducible show lendOk _ _ = true); rfl)
      | omega
      | ((first | (with_reducible show ¬ _) | (with_reducible show _ → _)); intro h; first | contradiction | cases h; done | skip)
    all_goals (try (first | refine fin_keep ?_ | refine finm_keep ?_; repeat clear hK))
    refine fin_tmp rfl ?_; simp only [nth_zero, nth_succ]; rw [if_pos (by rw [Bool.and_eq_true, inR_iff, inR_iff]; omega)]; congr 2; omega

theorem implSauer_ok : Fits Try.prog 20 tSauer := by
  refine ⟨callable_of Try.func20 (by kernel_rfl) rfl, ?_⟩
  intro args p out Ho h hp
  unfold tSauer at h
  split at h <;> cases h
  rename_i n d
  refine ⟨acall_by (env_ok (env := [(63, tWithin), (64, tBinomial)]) (by simp only [List.forall_mem_cons, List.not_mem_nil, false_implies, implies_true, and_true]; exact ⟨within_ok, binomial_ok⟩)) Try.func20 rfl rfl rfl rfl rfl ?_, rfl, rfl⟩
  intro hlen c hc hX
  simp only [lensOk, AV.lenOk, true_and, and_true] at hlen
  simp only [Try.ntmps20, Try.results20, List.length_cons, List.length_nil, List.replicate, List.cons_append, List.nil_append, Nat.reduceAdd, Nat.reduceSub]
  repeat' first
    | ((with_reducible show aol _ _ _ _ _); first
        | (refine aol_guard_f (by rfl) ?_ ?_; (focus (simp only [go_sem]; done)))
        | (refine aol_guard_un (by rfl) ?_ ?_; (focus (simp only [go_sem]; done)))
        | (refine aol_guard_t (by rfl) ?_ ?_; (focus (simp only [go_sem]; done)); simp (config := { maxSteps := 2000000 }) (disch := omega) only [go_sem, ↓reduceIte, Nat.reduceEqDiff, Nat.reduceAdd, Nat.reduceLT, Nat.reduceLeDiff, Nat.reduceSub, tWithin])
        | (refine aol_guard_b (by rfl) (by rfl) (fun h => ?_) (fun h => ?_) <;> (try simp only [Bool.and_eq_true, Bool.and_eq_false_iff, Bool.or_eq_true, Bool.or_eq_false_iff, List.all_cons, List.all_nil, Bool.and_true, beq_self_eq_true, beq_iff_eq, beq_eq_false_iff_ne, ne_eq, decide_true, decide_false, not_true_eq_false, not_false_eq_true, decide_eq_true_eq, decide_eq_false_iff_not, Bool.not_true, Bool.not_false, Bool.not_eq_true', Bool.not_eq_false', Int.not_le, Int.not_lt, reduceCtorEq, inR_iff, inR_not, isSet_iff, isSet_not] at h) <;> simp (config := { maxSteps := 2000000 }) (disch := omega) only [go_sem, ↓reduceIte, Nat.reduceEqDiff, Nat.reduceAdd, Nat.reduceLT, Nat.reduceLeDiff, Nat.reduceSub, tWithin])
        | simp (config := { maxSteps := 2000000 }) (disch := omega) only [go_sem, ↓reduceIte, Nat.reduceEqDiff, Nat.reduceAdd, Nat.reduceLT, Nat.reduceLeDiff, Nat.reduceSub, tWithin])
    | ((with_reducible refine hK _ ?_); clear hK K; try simp only [thn_n, blk_n, fin_n, finm_n])
    | (with_reducible refine awp_seq fun K hK => ?_)
    | ((with_reducible show Awp _ _ (Code.region _ _ _) _ _); first
        | (refine awp_regK (by repeat constructor) (fun K hK => ?_); simp (config := { maxSteps := 2000000 }) (disch := omega) only [go_sem, ↓reduceIte, Nat.reduceEqDiff, Nat.reduceAdd, Nat.reduceLT, Nat.reduceLeDiff, Nat.reduceSub, tWithin])
        | (refine awp_drwK (by kernel_rfl) (by repeat constructor) (fun K hK => ?_); simp (config := { maxSteps := 2000000 }) (disch := omega) only [go_sem, ↓reduceIte, Nat.reduceEqDiff, Nat.reduceAdd, Nat.reduceLT, Nat.reduceLeDiff, Nat.reduceSub, tWithin]))
    | ((with_reducible show Awp _ _ (Code.cond _ _ _) _ _); refine awp_cond rfl (fun h => ?_) (fun h => ?_) <;> (try simp only [Bool.and_eq_true, Bool.and_eq_false_iff, Bool.or_eq_true, Bool.or_eq_false_iff, List.all_cons, List.all_nil, Bool.and_true, beq_self_eq_true, beq_iff_eq, beq_eq_false_iff_ne, ne_eq, decide_true, decide_false, not_true_eq_false, not_false_eq_true, decide_eq_true_eq, decide_eq_false_iff_not, Bool.not_true, Bool.not_false, Bool.not_eq_true', Bool.not_eq_false', Int.not_le, Int.not_lt, reduceCtorEq, inR_iff, inR_not, isSet_iff, isSet_not] at h))
    | ((with_reducible refine awp_skip ?_); simp only [thn_n, blk_n, fin_n, finm_n])
    | ((with_reducible refine awp_ret ?_); simp only [thn_r, blk_r, fin_r, finm_r])
    | (with_reducible refine awp_block ?_)
    | ((with_reducible refine awp_exit ?_); simp only [thn_e, blk_e, blk_x, blk_n, thn_n, ne_eq, not_false_eq_true, Nat.reduceEqDiff, reduceCtorEq]; first | (refine hK _ ?_; clear hK K) | (clear hK K; refine hK _ ?_; clear hK K) | (clear hK K; clear hK K; refine hK _ ?_; clear hK K) | (clear hK K; clear hK K; clear hK K; refine hK _ ?_; clear hK K) | skip)
    | (with_reducible apply And.intro)
    | (with_reducible exact True.intro)
    | ((with_reducible show List.all _ _ = true); rfl)
    | ((with_reducible show lendOk _ _ = true); rfl)
    | omega
    | ((first | (with_reducible show ¬ _) | (with_reducible show _ → _)); intro h; first | contradiction | cases h; done | skip)
  all_goals (try (first | refine fin_keep ?_ | refine finm_keep ?_; repeat clear hK))
  · refine fin_tmp rfl ?_; simp only [nth_zero, nth_succ]; rw [if_neg (by rw [Bool.and_eq_true, inR_iff, inR_iff]; omega)]
  rotate_left
  · refine fin_tmp rfl ?_; simp only [nth_zero, nth_succ]; rw [if_neg (by rw [Bool.and_eq_true, inR_iff, inR_iff]; omega)]
  rename_i hin hid
  refine awp_for (fun s (i : Nat) => s.at [0, 1] [(5, .i (sau n i)), (6, .i i)] s.hp) (fun i => (i : Int) ≤ d + 1) (fun i => (d + 1).toNat - i) 0 (by omega) ?_ ?_
  · simp [-List.getD_eq_getElem?_getD, -List.length_take, Le, leFr, ASt.at, keepFr, updAll, upd_zero, upd_succ, sau]
  rintro i hi
  simp only [ASt.at, keepFr, updAll, upd_zero, upd_succ, List.mem_cons, List.not_mem_nil, Nat.reduceEqDiff, Nat.reduceAdd, or_false, or_true, false_or, true_or, ↓reduceIte, eq_self]
  have hb := sau_bd (n := n) (by omega) (i := i)
  have hc' := chV_bd (n := n) (k := i) (by omega)
  have hin' : (0 ≤ n ∧ n ≤ 20) = True := by simp only [eq_iff_iff, iff_true]; omega
  repeat' first
    | ((with_reducible show aol _ _ _ _ _); first
        | (refine aol_guard_f (by rfl) ?_ ?_; (focus (simp only [go_sem]; done)))
        | (refine aol_guard_un (by rfl) ?_ ?_; (focus (simp only [go_sem]; done)))
        | (refine aol_guard_t (by rfl) ?_ ?_; (focus (simp only [go_sem]; done)); simp (config := { maxSteps := 2000000 }) (disch := omega) only [go_sem, ↓reduceIte, Nat.reduceEqDiff, Nat.reduceAdd, Nat.reduceLT, Nat.reduceLeDiff, Nat.reduceSub, tWithin, tBinomial, hin'])
        | (refine aol_guard_b (by rfl) (by rfl) (fun h => ?_) (fun h => ?_) <;> (try simp only [Bool.and_eq_true, Bool.and_eq_false_iff, Bool.or_eq_true, Bool.or_eq_false_iff, List.all_cons, List.all_nil, Bool.and_true, beq_self_eq_true, beq_iff_eq, beq_eq_false_iff_ne, ne_eq, decide_true, decide_false, not_true_eq_false, not_false_eq_true, decide_eq_true_eq, decide_eq_false_iff_not, Bool.not_true, Bool.not_false, Bool.not_eq_true', Bool.not_eq_false', Int.not_le, Int.not_lt, reduceCtorEq, inR_iff, inR_not, isSet_iff, isSet_not] at h) <;> simp (config := { maxSteps := 2000000 }) (disch := omega) only [go_sem, ↓reduceIte, Nat.reduceEqDiff, Nat.reduceAdd, Nat.reduceLT, Nat.reduceLeDiff, Nat.reduceSub, tWithin, tBinomial, hin'])
        | simp (config := { maxSteps := 2000000 }) (disch := omega) only [go_sem, ↓reduceIte, Nat.reduceEqDiff, Nat.reduceAdd, Nat.reduceLT, Nat.reduceLeDiff, Nat.reduceSub, tWithin, tBinomial, hin'])
    | ((with_reducible refine hK _ ?_); clear hK K; try simp only [thn_n, blk_n, fin_n, finm_n])
    | (with_reducible refine awp_seq fun K hK => ?_)
    | ((with_reducible show Awp _ _ (Code.region _ _ _) _ _); first
        | (refine awp_regK (by repeat constructor) (fun K hK => ?_); simp (config := { maxSteps := 2000000 }) (disch := omega) only [go_sem, ↓reduceIte, Nat.reduceEqDiff, Nat.reduceAdd, Nat.reduceLT, Nat.reduceLeDiff, Nat.reduceSub, tWithin, tBinomial, hin'])
        | (refine awp_drwK (by kernel_rfl) (by repeat constructor) (fun K hK => ?_); simp (config := { maxSteps := 2000000 }) (disch := omega) only [go_sem, ↓reduceIte, Nat.reduceEqDiff, Nat.reduceAdd, Nat.reduceLT, Nat.reduceLeDiff, Nat.reduceSub, tWithin, tBinomial, hin']))
    | ((with_reducible show Awp _ _ (Code.cond _ _ _) _ _); refine awp_cond rfl (fun h => ?_) (fun h => ?_) <;> (try simp only [Bool.and_eq_true, Bool.and_eq_false_iff, Bool.or_eq_true, Bool.or_eq_false_iff, List.all_cons, List.all_nil, Bool.and_true, beq_self_eq_true, beq_iff_eq, beq_eq_false_iff_ne, ne_eq, decide_true, decide_false, not_true_eq_false, not_false_eq_true, decide_eq_true_eq, decide_eq_false_iff_not, Bool.not_true, Bool.not_false, Bool.not_eq_true', Bool.not_eq_false', Int.not_le, Int.not_lt, reduceCtorEq, inR_iff, inR_not, isSet_iff, isSet_not] at h))
    | ((with_reducible refine awp_skip ?_); simp only [thn_n, blk_n, fin_n, finm_n])
    | ((with_reducible refine awp_ret ?_); simp only [thn_r, blk_r, fin_r, finm_r])
    | (with_reducible refine awp_block ?_)
    | ((with_reducible refine awp_exit ?_); simp only [thn_e, blk_e, blk_x, blk_n, thn_n, ne_eq, not_false_eq_true, Nat.reduceEqDiff, reduceCtorEq]; first | (refine hK _ ?_; clear hK K) | (clear hK K; refine hK _ ?_; clear hK K) | (clear hK K; clear hK K; refine hK _ ?_; clear hK K) | (clear hK K; clear hK K; clear hK K; refine hK _ ?_; clear hK K) | skip)
    | (with_reducible apply And.intro)
    | (with_reducible exact True.intro)
    | ((with_reducible show List.all _ _ = true); rfl)
    | ((with_reducible show lendOk _ _ = true); rfl)
    | omega
    | ((first | (with_reducible show ¬ _) | (with_reducible show _ → _)); intro h; first | contradiction | cases h; done | skip)
  all_goals (try (first | refine fin_keep ?_ | refine finm_keep ?_; repeat clear hK))
  · refine ⟨i + 1, by omega, by omega, ?_⟩
    simp [-List.getD_eq_getElem?_getD, -List.length_take, Le, leFr, ASt.at, keepFr, updAll, upd_zero, upd_succ, sau, hin']
  · obtain rfl : d = i - 1 := by omega
    repeat' first
      | ((with_reducible show aol _ _ _ _ _); first
          | (refine aol_guard_f (by rfl) ?_ ?_; (focus (simp only [go_sem]; done)))
          | (refine aol_guard_un (by rfl) ?_ ?_; (focus (simp only [go_sem]; done)))
          | (refine aol_guard_t (by rfl) ?_ ?_; (focus (simp only [go_sem]; done)); simp (config := { maxSteps := 2000000 }) (disch := omega) only [go_sem, ↓reduceIte, Nat.reduceEqDiff, Nat.reduceAdd, Nat.reduceLT, Nat.reduceLeDiff, Nat.reduceSub])
          | (refine aol_guard_b (by rfl) (by rfl) (fun h => ?_) (fun h => ?_) <;> (try simp only [Bool.and_eq_true, Bool.and_eq_false_iff, Bool.or_eq_true, Bool.or_eq_false_iff, List.all_cons, List.all_nil, Bool.and_true, beq_self_eq_true, beq_iff_eq, beq_eq_false_iff_ne, ne_eq, decide_true, decide_false, not_true_eq_false, not_false_eq_true, decide_eq_true_eq, decide_eq_false_iff_not, Bool.not_true, Bool.not_false, Bool.not_eq_true', Bool.not_eq_false', Int.not_le, Int.not_lt, reduceCtorEq, inR_iff, inR_not, isSet_iff, isSet_not] at h) <;> simp (config := { maxSteps := 2000000 }) (disch := omega) only [go_sem, ↓reduceIte, Nat.reduceEqDiff, Nat.reduceAdd, Nat.reduceLT, Nat.reduceLeDiff, Nat.reduceSub])
          | simp (config := { maxSteps := 2000000 }) (disch := omega) only [go_sem, ↓reduceIte, Nat.reduceEqDiff, Nat.reduceAdd, Nat.reduceLT, Nat.reduceLeDiff, Nat.reduceSub])
      | ((with_reducible refine hK _ ?_); clear hK K; try simp only [thn_n, blk_n, fin_n, finm_n])
      | (with_reducible refine awp_seq fun K hK => ?_)
      | ((with_reducible show Awp _ _ (Code.region _ _ _) _ _); first
          | (refine awp_regK (by repeat constructor) (fun K hK => ?_); simp (config := { maxSteps := 2000000 }) (disch := omega) only [go_sem, ↓reduceIte, Nat.reduceEqDiff, Nat.reduceAdd, Nat.reduceLT, Nat.reduceLeDiff, Nat.reduceSub])
          | (refine awp_drwK (by kernel_rfl) (by repeat constructor) (fun K hK => ?_); simp (config := { maxSteps := 2000000 }) (disch := omega) only [go_sem, ↓reduceIte, Nat.reduceEqDiff, Nat.reduceAdd, Nat.reduceLT, Nat.reduceLeDiff, Nat.reduceSub]))
      | ((with_reducible show Awp _ _ (Code.cond _ _ _) _ _); refine awp_cond rfl (fun h => ?_) (fun h => ?_) <;> (try simp only [Bool.and_eq_true, Bool.and_eq_false_iff, Bool.or_eq_true, Bool.or_eq_false_iff, List.all_cons, List.all_nil, Bool.and_true, beq_self_eq_true, beq_iff_eq, beq_eq_false_iff_ne, ne_eq, decide_true, decide_false, not_true_eq_false, not_false_eq_true, decide_eq_true_eq, decide_eq_false_iff_not, Bool.not_true, Bool.not_false, Bool.not_eq_true', Bool.not_eq_false', Int.not_le, Int.not_lt, reduceCtorEq, inR_iff, inR_not, isSet_iff, isSet_not] at h))
      | ((with_reducible refine awp_skip ?_); simp only [thn_n, blk_n, fin_n, finm_n])
      | ((with_reducible refine awp_ret ?_); simp only [thn_r, blk_r, fin_r, finm_r])
      | (with_reducible refine awp_block ?_)
      | ((with_reducible refine awp_exit ?_); simp only [thn_e, blk_e, blk_x, blk_n, thn_n, ne_eq, not_false_eq_true, Nat.reduceEqDiff, reduceCtorEq]; first | (refine hK _ ?_; clear hK K) | (clear hK K; refine hK _ ?_; clear hK K) | (clear hK K; clear hK K; refine hK _ ?_; clear hK K) | (clear hK K; clear hK K; clear hK K; refine hK _ ?_; clear hK K) | skip)
      | (with_reducible apply And.intro)
      | (with_reducible exact True.intro)
      | ((with_reducible show List.all _ _ = true); rfl)
      | ((with_reducible show lendOk _ _ = true); rfl)
      | omega
      | ((first | (with_reducible show ¬ _) | (with_reducible show _ → _)); intro h; first | contradiction | cases h; done | skip)
    all_goals (try (first | refine fin_keep ?_ | refine finm_keep ?_; repeat clear hK))
    refine fin_tmp rfl ?_; simp only [nth_zero, nth_succ]; rw [if_pos (by rw [Bool.and_eq_true, inR_iff, inR_iff]; omega)]; congr 2; omega

def tTrue2 : Tab
  | [.i _, .i _] => some (True, .b true, [])
  | _ => none
theorem exactChoose_ok : Fits Try.prog 3 tTrue2 := by
  refine ⟨callable_of Try.func3 (by kernel_rfl) rfl, ?_⟩
  intro args p out Ho h hp
  unfold tTrue2 at h
  split at h <;> cases h
  rename_i n k
  refine ⟨acall_by (env_ok (env := [(15, tChoose), (16, tChoose)]) (by simp only [List.forall_mem_cons, List.not_mem_nil, false_implies, implies_true, and_true]; exact ⟨specChoose_ok, implChoose_ok⟩)) Try.func3 rfl rfl rfl rfl rfl ?_, rfl, rfl⟩
  intro hlen c hc hX
  simp only [lensOk, AV.lenOk, true_and, and_true] at hlen
  simp only [Try.ntmps3, Try.results3, List.length_cons, List.length_nil, List.replicate, List.cons_append, List.nil_append, Nat.reduceAdd, Nat.reduceSub]
  repeat' first
    | ((with_reducible show aol _ _ _ _ _); first
        | (refine aol_guard_f (by rfl) ?_ ?_; (focus (simp only [go_sem]; done)))
        | (refine aol_guard_un (by rfl) ?_ ?_; (focus (simp only [go_sem]; done)))
        | (refine aol_guard_t (by rfl) ?_ ?_; (focus (simp only [go_sem]; done)); simp (config := { maxSteps := 2000000 }) (disch := omega) only [go_sem, ↓reduceIte, Nat.reduceEqDiff, Nat.reduceAdd, Nat.reduceLT, Nat.reduceLeDiff, Nat.reduceSub, tChoose])
        | (refine aol_guard_b (by rfl) (by rfl) (fun h => ?_) (fun h => ?_) <;> (try simp only [Bool.and_eq_true, Bool.and_eq_false_iff, Bool.or_eq_true, Bool.or_eq_false_iff, List.all_cons, List.all_nil, Bool.and_true, beq_self_eq_true, beq_iff_eq, beq_eq_false_iff_ne, ne_eq, decide_true, decide_false, not_true_eq_false, not_false_eq_true, decide_eq_true_eq, decide_eq_false_iff_not, Bool.not_true, Bool.not_false, Bool.not_eq_true', Bool.not_eq_false', Int.not_le, Int.not_lt, reduceCtorEq, inR_iff, inR_not, isSet_iff, isSet_not] at h) <;> simp (config := { maxSteps := 2000000 }) (disch := omega) only [go_sem, ↓reduceIte, Nat.reduceEqDiff, Nat.reduceAdd, Nat.reduceLT, Nat.reduceLeDiff, Nat.reduceSub, tChoose])
        | simp (config := { maxSteps := 2000000 }) (disch := omega) only [go_sem, ↓reduceIte, Nat.reduceEqDiff, Nat.reduceAdd, Nat.reduceLT, Nat.reduceLeDiff, Nat.reduceSub, tChoose])
    | ((with_reducible refine hK _ ?_); clear hK K; try simp only [thn_n, blk_n, fin_n, finm_n])
    | (with_reducible refine awp_seq fun K hK => ?_)
    | ((with_reducible show Awp _ _ (Code.region _ _ _) _ _); first
        | (refine awp_regK (by repeat constructor) (fun K hK => ?_); simp (config := { maxSteps := 2000000 }) (disch := omega) only [go_sem, ↓reduceIte, Nat.reduceEqDiff, Nat.reduceAdd, Nat.reduceLT, Nat.reduceLeDiff, Nat.reduceSub, tChoose])
        | (refine awp_drwK (by kernel_rfl) (by repeat constructor) (fun K hK => ?_); simp (config := { maxSteps := 2000000 }) (disch := omega) only [go_sem, ↓reduceIte, Nat.reduceEqDiff, Nat.reduceAdd, Nat.reduceLT, Nat.reduceLeDiff, Nat.reduceSub, tChoose]))
    | ((with_reducible show Awp _ _ (Code.cond _ _ _) _ _); refine awp_cond rfl (fun h => ?_) (fun h => ?_) <;> (try simp only [Bool.and_eq_true, Bool.and_eq_false_iff, Bool.or_eq_true, Bool.or_eq_false_iff, List.all_cons, List.all_nil, Bool.and_true, beq_self_eq_true, beq_iff_eq, beq_eq_false_iff_ne, ne_eq, decide_true, decide_false, not_true_eq_false, not_false_eq_true, decide_eq_true_eq, decide_eq_false_iff_not, Bool.not_true, Bool.not_false, Bool.not_eq_true', Bool.not_eq_false', Int.not_le, Int.not_lt, reduceCtorEq, inR_iff, inR_not, isSet_iff, isSet_not] at h))
    | ((with_reducible refine awp_skip ?_); simp only [thn_n, blk_n, fin_n, finm_n])
    | ((with_reducible refine awp_ret ?_); simp only [thn_r, blk_r, fin_r, finm_r])
    | (with_reducible refine awp_block ?_)
    | ((with_reducible refine awp_exit ?_); simp only [thn_e, blk_e, blk_x, blk_n, thn_n, ne_eq, not_false_eq_true, Nat.reduceEqDiff, reduceCtorEq]; first | (refine hK _ ?_; clear hK K) | (clear hK K; refine hK _ ?_; clear hK K) | (clear hK K; clear hK K; refine hK _ ?_; clear hK K) | (clear hK K; clear hK K; clear hK K; refine hK _ ?_; clear hK K) | skip)
    | (with_reducible apply And.intro)
    | (with_reducible exact True.intro)
    | ((with_reducible show List.all _ _ = true); rfl)
    | ((with_reducible show lendOk _ _ = true); rfl)
    | omega
    | ((first | (with_reducible show ¬ _) | (with_reducible show _ → _)); intro h; first | contradiction | cases h; done | skip)
  all_goals (try (first | refine fin_keep ?_ | refine finm_keep ?_; repeat clear hK))
  refine fin_tmp rfl ?_; rfl
theorem exactSauer_ok : Fits Try.prog 5 tTrue2 := by
  refine ⟨callable_of Try.func5 (by kernel_rfl) rfl, ?_⟩
  intro args p out Ho h hp
  unfold tTrue2 at h
  split at h <;> cases h
  rename_i n d
  refine ⟨acall_by (env_ok (env := [(19, tSauer), (20, tSauer)]) (by simp only [List.forall_mem_cons, List.not_mem_nil, false_implies, implies_true, and_true]; exact ⟨specSauer_ok, implSauer_ok⟩)) Try.func5 rfl rfl rfl rfl rfl ?_, rfl, rfl⟩
  intro hlen c hc hX
  simp only [lensOk, AV.lenOk, true_and, and_true] at hlen
  simp only [Try.ntmps5, Try.results5, List.length_cons, List.length_nil, List.replicate, List.cons_append, List.nil_append, Nat.reduceAdd, Nat.reduceSub]
  repeat' first
    | ((with_reducible show aol _ _ _ _ _); first
        | (refine aol_guard_f (by rfl) ?_ ?_; (focus (simp only [go_sem]; done)))
        | (refine aol_guard_un (by rfl) ?_ ?_; (focus (simp only [go_sem]; done)))
        | (refine aol_guard_t (by rfl) ?_ ?_; (focus (simp only [go_sem]; done)); simp (config := { maxSteps := 2000000 }) (disch := omega) only [go_sem, ↓reduceIte, Nat.reduceEqDiff, Nat.reduceAdd, Nat.reduceLT, Nat.reduceLeDiff, Nat.reduceSub, tSauer])
        | (refine aol_guard_b (by rfl) (by rfl) (fun h => ?_) (fun h => ?_) <;> (try simp only [Bool.and_eq_true, Bool.and_eq_false_iff, Bool.or_eq_true, Bool.or_eq_false_iff, List.all_cons, List.all_nil, Bool.and_true, beq_self_eq_true, beq_iff_eq, beq_eq_false_iff_ne, ne_eq, decide_true, decide_false, not_true_eq_false, not_false_eq_true, decide_eq_true_eq, decide_eq_false_iff_not, Bool.not_true, Bool.not_false, Bool.not_eq_true', Bool.not_eq_false', Int.not_le, Int.not_lt, reduceCtorEq, inR_iff, inR_not, isSet_iff, isSet_not] at h) <;> simp (config := { maxSteps := 2000000 }) (disch := omega) only [go_sem, ↓reduceIte, Nat.reduceEqDiff, Nat.reduceAdd, Nat.reduceLT, Nat.reduceLeDiff, Nat.reduceSub, tSauer])
        | simp (config := { maxSteps := 2000000 }) (disch := omega) only [go_sem, ↓reduceIte, Nat.reduceEqDiff, Nat.reduceAdd, Nat.reduceLT, Nat.reduceLeDiff, Nat.reduceSub, tSauer])
    | ((with_reducible refine hK _ ?_); clear hK K; try simp only [thn_n, blk_n, fin_n, finm_n])
    | (with_reducible refine awp_seq fun K hK => ?_)
    | ((with_reducible show Awp _ _ (Code.region _ _ _) _ _); first
        | (refine awp_regK (by repeat constructor) (fun K hK => ?_); simp (config := { maxSteps := 2000000 }) (disch := omega) only [go_sem, ↓reduceIte, Nat.reduceEqDiff, Nat.reduceAdd, Nat.reduceLT, Nat.reduceLeDiff, Nat.reduceSub, tSauer])
        | (refine awp_drwK (by kernel_rfl) (by repeat constructor) (fun K hK => ?_); simp (config := { maxSteps := 2000000 }) (disch := omega) only [go_sem, ↓reduceIte, Nat.reduceEqDiff, Nat.reduceAdd, Nat.reduceLT, Nat.reduceLeDiff, Nat.reduceSub, tSauer]))
    | ((with_reducible show Awp _ _ (Code.cond _ _ _) _ _); refine awp_cond rfl (fun h => ?_) (fun h => ?_) <;> (try simp only [Bool.and_eq_true, Bool.and_eq_false_iff, Bool.or_eq_true, Bool.or_eq_false_iff, List.all_cons, List.all_nil, Bool.and_true, beq_self_eq_true, beq_iff_eq, beq_eq_false_iff_ne, ne_eq, decide_true, decide_false, not_true_eq_false, not_false_eq_true, decide_eq_true_eq, decide_eq_false_iff_not, Bool.not_true, Bool.not_false, Bool.not_eq_true', Bool.not_eq_false', Int.not_le, Int.not_lt, reduceCtorEq, inR_iff, inR_not, isSet_iff, isSet_not] at h))
    | ((with_reducible refine awp_skip ?_); simp only [thn_n, blk_n, fin_n, finm_n])
    | ((with_reducible refine awp_ret ?_); simp only [thn_r, blk_r, fin_r, finm_r])
    | (with_reducible refine awp_block ?_)
    | ((with_reducible refine awp_exit ?_); simp only [thn_e, blk_e, blk_x, blk_n, thn_n, ne_eq, not_false_eq_true, Nat.reduceEqDiff, reduceCtorEq]; first | (refine hK _ ?_; clear hK K) | (clear hK K; refine hK _ ?_; clear hK K) | (clear hK K; clear hK K; refine hK _ ?_; clear hK K) | (clear hK K; clear hK K; clear hK K; refine hK _ ?_; clear hK K) | skip)
    | (with_reducible apply And.intro)
    | (with_reducible exact True.intro)
    | ((with_reducible show List.all _ _ = true); rfl)
    | ((with_reducible show lendOk _ _ = true); rfl)
    | omega
    | ((first | (with_reducible show ¬ _) | (with_reducible show _ → _)); intro h; first | contradiction | cases h; done | skip)
  all_goals (try (first | refine fin_keep ?_ | refine finm_keep ?_; repeat clear hK))
  refine fin_tmp rfl ?_; rfl

end Go.Proofs.Ytjebaloibfngnaa
