import Derived.Test.YtjlpjkiadohkiaaHs
import Derived.Test.YtjlpjkiadohkiaaT25
set_option linter.unusedSimpArgs false
set_option linter.unusedVariables false
set_option maxHeartbeats 2000000
namespace Go.Proofs.Ytjlpjkiadohkiaa
open Go Go.Ab
attribute [local irreducible] aol
attribute [local irreducible] popN


def ptP (l l' : List Int) (s t : Nat) : Bool := decide (iand (t : Int) (s : Int) = t) && (freeV l (t : Int) && freeV l' ((s : Int) - (t : Int)))
def ptV (l l' : List Int) (s : Nat) : Option Nat := seek (ptP l l' s) (s + 1) 0
def optI : Option Nat → Int
  | some t => t
  | none => 0
theorem seek_lt {p : Nat → Bool} : ∀ {n j t : Nat}, seek p n j = some t → j ≤ t ∧ t < j + n ∧ p t = true
  | 0, _, _, h => by cases h
  | n + 1, j, t, h => by
    unfold seek at h
    cases hp : p j with
    | true => rw [hp, if_pos rfl] at h; cases h; exact ⟨Nat.le_refl _, by omega, hp⟩
    | false =>
      rw [hp, if_neg (by decide)] at h
      have := seek_lt h
      exact ⟨by omega, by omega, this.2.2⟩
theorem ptV_le {l l' : List Int} {s t : Nat} (h : ptV l l' s = some t) : t ≤ s := by have := seek_lt h; omega
def tParts : Tab
  | [.ag [.i n, .sl .i64 l], .ag [.i n', .sl .i64 l'], .i s] => some (splPre n l n' l' s, .tu [.i (optI (ptV l l' s.toNat)), .b (ptV l l' s.toNat).isSome], [])
  | _ => none
theorem parts_ok : Fits Try.prog 123 tParts := by
  refine ⟨callable_of Try.func123 (by kernel_rfl) rfl, ?_⟩
  intro args p out Ho h hp
  unfold tParts at h
  split at h <;> cases h
  rename_i n l n' l' s
  refine ⟨acall_by (env_ok (env := [(129, tFree)]) (by simp only [List.forall_mem_cons, List.not_mem_nil, false_implies, implies_true, and_true]; exact free_ok)) Try.func123 rfl rfl rfl rfl rfl ?_, rfl, rfl⟩
  intro hlen c hc hX
  simp only [lensOk, AV.lenOk, true_and, and_true] at hlen
  simp only [Try.ntmps123, Try.results123, List.length_cons, List.length_nil, List.replicate, List.cons_append, List.nil_append, Nat.reduceAdd, Nat.reduceSub]
  obtain ⟨hf, hf', rfl, hs⟩ := hp
  obtain ⟨s, rfl⟩ := Int.eq_ofNat_of_zero_le hs.1
  rw [Int.toNat_natCast]
  have hs' := set_fn ⟨hf, hs⟩
  have hlen1 := fnV_len hf
  repeat' first | ((with_reducible show aol _ _ _ _ _); first | (refine aol_guard_f (by rfl) ?_ ?_; (focus (simp only [go_sem]; done))) | (refine aol_guard_un (by rfl) ?_ ?_; (focus (simp only [go_sem]; done))) | ((first | (refine aol_guard_t (by rfl) ?_ ?_; (focus (simp only [go_sem]; done))) | (refine aol_guard_b (by rfl) (by rfl) (fun h => ?_) (fun h => ?_) <;> (try simp only [hsA, hsB, hsC, hsD, List.all_cons, List.all_nil, ne_eq, reduceCtorEq, inR_iff, inR_not, isSet_iff, isSet_not] at h))) <;> simp (config := { maxSteps := 2000000 }) (disch := omega) only [go_sem, ↓reduceIte, Nat.reduceEqDiff, Nat.reduceAdd, Nat.reduceLT, Nat.reduceLeDiff, Nat.reduceSub]) | simp (config := { maxSteps := 2000000 }) (disch := omega) only [go_sem, ↓reduceIte, Nat.reduceEqDiff, Nat.reduceAdd, Nat.reduceLT, Nat.reduceLeDiff, Nat.reduceSub]) | ((with_reducible refine hK _ ?_); clear hK K; try simp only [thn_n, blk_n, fin_n, finm_n]) | (with_reducible refine awp_seq fun K hK => ?_) | ((with_reducible show Awp _ _ (Code.region _ _ _) _ _); (first | refine awp_regK (by repeat constructor) (fun K hK => ?_) | (refine awp_drwK (by kernel_rfl) (by repeat constructor) (fun K hK => ?_))); simp (config := { maxSteps := 2000000 }) (disch := omega) only [go_sem, ↓reduceIte, Nat.reduceEqDiff, Nat.reduceAdd, Nat.reduceLT, Nat.reduceLeDiff, Nat.reduceSub]) | ((with_reducible show Awp _ _ (Code.cond _ _ _) _ _); refine awp_cond rfl (fun h => ?_) (fun h => ?_) <;> (try simp only [hsA, hsB, hsC, hsD, List.all_cons, List.all_nil, ne_eq, reduceCtorEq, inR_iff, inR_not, isSet_iff, isSet_not] at h)) | ((with_reducible refine awp_skip ?_); simp only [thn_n, blk_n, fin_n, finm_n]) | ((with_reducible refine awp_ret ?_); simp only [thn_r, blk_r, fin_r, finm_r]) | (with_reducible refine awp_block ?_) | ((with_reducible refine awp_exit ?_); simp only [thn_e, blk_e, blk_x, blk_n, thn_n, ne_eq, not_false_eq_true, Nat.reduceEqDiff, reduceCtorEq]; first | (refine hK _ ?_; clear hK K) | (clear hK K; refine hK _ ?_; clear hK K) | (clear hK K; clear hK K; refine hK _ ?_; clear hK K) | (clear hK K; clear hK K; clear hK K; refine hK _ ?_; clear hK K) | skip) | (with_reducible apply And.intro) | (with_reducible exact True.intro) | ((with_reducible show List.all _ _ = true); rfl) | ((with_reducible show lendOk _ _ = true); rfl) | omega | ((first | (with_reducible show ¬ _) | (with_reducible show _ → _)); intro h; first | contradiction | cases h; done | skip)
  all_goals (try (first | refine fin_keep ?_ | refine finm_keep ?_; repeat clear hK))
  refine awp_for (fun st (k : Nat) => st.at [2, 3, 4, 10] [(11, .i k)] st.hp) (fun k => k ≤ s + 1 ∧ ptV l l' s = seek (ptP l l' s) (s + 1 - k) k) (fun k => s + 1 - k) 0 ⟨Nat.zero_le _, rfl⟩ ?_ ?_
  · simp [-List.getD_eq_getElem?_getD, -List.length_take, Le, leFr, ASt.at, keepFr, updAll, upd_zero, upd_succ]
  rintro k ⟨hk, ha⟩
  simp only [ASt.at, keepFr, updAll, upd_zero, upd_succ, List.mem_cons, List.not_mem_nil, Nat.reduceEqDiff, Nat.reduceAdd, or_false, or_true, false_or, true_or, ↓reduceIte, eq_self]
  have hsx : (k : Int) < (s : Int) + 1 → iandn (k : Int) (s : Int) = 0 → iandn (s : Int) (k : Int) = (s : Int) - (k : Int) := fun h1 h2 => iandn_sub (by omega) (by omega) h2
  have hz : (k : Int) < (s : Int) + 1 → (iandn (k : Int) (s : Int) = 0 ↔ iand (k : Int) (s : Int) = k) := fun h => iandn_zero' (by omega) (by omega)
  have hno : (k : Int) < (s : Int) + 1 → ptP l l' s k = false → ptV l l' s = seek (ptP l l' s) (s + 1 - (k + 1)) (k + 1) := fun h1 h2 => by
    rw [seek_at (by omega), if_neg (by rw [h2]; decide)] at ha; exact ha
  repeat' first | ((with_reducible show aol _ _ _ _ _); first | (refine aol_guard_f (by rfl) ?_ ?_; (focus (simp only [go_sem]; done))) | (refine aol_guard_un (by rfl) ?_ ?_; (focus (simp only [go_sem]; done))) | ((first | (refine aol_guard_t (by rfl) ?_ ?_; (focus (simp only [go_sem]; done))) | (refine aol_guard_b (by rfl) (by rfl) (fun h => ?_) (fun h => ?_) <;> (try simp only [hsA, hsB, hsC, hsD, List.all_cons, List.all_nil, ne_eq, reduceCtorEq, inR_iff, inR_not, isSet_iff, isSet_not] at h))) <;> simp (config := { maxSteps := 2000000 }) (disch := omega) only [go_sem, ↓reduceIte, Nat.reduceEqDiff, Nat.reduceAdd, Nat.reduceLT, Nat.reduceLeDiff, Nat.reduceSub, tFree, hsx, hf, hf']) | simp (config := { maxSteps := 2000000 }) (disch := omega) only [go_sem, ↓reduceIte, Nat.reduceEqDiff, Nat.reduceAdd, Nat.reduceLT, Nat.reduceLeDiff, Nat.reduceSub, tFree, hsx, hf, hf']) | ((with_reducible refine hK _ ?_); clear hK K; try simp only [thn_n, blk_n, fin_n, finm_n]) | (with_reducible refine awp_seq fun K hK => ?_) | ((with_reducible show Awp _ _ (Code.region _ _ _) _ _); (first | refine awp_regK (by repeat constructor) (fun K hK => ?_) | (refine awp_drwK (by kernel_rfl) (by repeat constructor) (fun K hK => ?_))); simp (config := { maxSteps := 2000000 }) (disch := omega) only [go_sem, ↓reduceIte, Nat.reduceEqDiff, Nat.reduceAdd, Nat.reduceLT, Nat.reduceLeDiff, Nat.reduceSub, tFree, hsx, hf, hf']) | ((with_reducible show Awp _ _ (Code.cond _ _ _) _ _); refine awp_cond rfl (fun h => ?_) (fun h => ?_) <;> (try simp only [hsA, hsB, hsC, hsD, List.all_cons, List.all_nil, ne_eq, reduceCtorEq, inR_iff, inR_not, isSet_iff, isSet_not] at h)) | ((with_reducible refine awp_skip ?_); simp only [thn_n, blk_n, fin_n, finm_n]) | ((with_reducible refine awp_ret ?_); simp only [thn_r, blk_r, fin_r, finm_r]) | (with_reducible refine awp_block ?_) | ((with_reducible refine awp_exit ?_); simp only [thn_e, blk_e, blk_x, blk_n, thn_n, ne_eq, not_false_eq_true, Nat.reduceEqDiff, reduceCtorEq]; first | (refine hK _ ?_; clear hK K) | (clear hK K; refine hK _ ?_; clear hK K) | (clear hK K; clear hK K; refine hK _ ?_; clear hK K) | (clear hK K; clear hK K; clear hK K; refine hK _ ?_; clear hK K) | skip) | (with_reducible apply And.intro) | (with_reducible exact True.intro) | ((with_reducible show List.all _ _ = true); rfl) | ((with_reducible show lendOk _ _ = true); rfl) | omega | ((first | (with_reducible show ¬ _) | (with_reducible show _ → _)); intro h; first | contradiction | cases h; done | skip)
  all_goals (try (first | refine fin_keep ?_ | refine finm_keep ?_; repeat clear hK))
  · have h1 : (k : Int) < (s : Int) + 1 := by assumption
    have h2 : iandn (k : Int) (s : Int) = 0 := by assumption
    have h3 : freeV l (k : Int) = true := by assumption
    have hpt : ptP l l' s k = true := by rw [ptP, decide_eq_true ((hz h1).1 h2), h3, h]; rfl
    rw [seek_at (by omega), if_pos hpt] at ha
    rw [ha]; exact fin_tmp2 rfl rfl rfl
  · have h1 : (k : Int) < (s : Int) + 1 := by assumption
    have h3 : freeV l (k : Int) = true := by assumption
    refine ⟨k + 1, ⟨by omega, hno h1 (by rw [ptP, h3, h, Bool.and_false, Bool.and_false])⟩, by omega, ?_⟩
    simp [-List.getD_eq_getElem?_getD, -List.length_take, Le, leFr, ASt.at, keepFr, updAll, upd_zero, upd_succ]
  · have h1 : (k : Int) < (s : Int) + 1 := by assumption
    have h3 : freeV l (k : Int) = false := by assumption
    refine ⟨k + 1, ⟨by omega, hno h1 (by rw [ptP, h3, Bool.false_and, Bool.and_false])⟩, by omega, ?_⟩
    simp [-List.getD_eq_getElem?_getD, -List.length_take, Le, leFr, ASt.at, keepFr, updAll, upd_zero, upd_succ]
  · have h1 : (k : Int) < (s : Int) + 1 := by assumption
    have h3 : ¬ iandn (k : Int) (s : Int) = 0 := by assumption
    refine ⟨k + 1, ⟨by omega, hno h1 (by rw [ptP, decide_eq_false (fun h2 => h3 ((hz h1).2 h2)), Bool.false_and])⟩, by omega, ?_⟩
    simp [-List.getD_eq_getElem?_getD, -List.length_take, Le, leFr, ASt.at, keepFr, updAll, upd_zero, upd_succ]
  · obtain rfl : k = s + 1 := by omega
    rw [Nat.sub_self] at ha
    rw [ha]; exact fin_tmp2 rfl rfl rfl
def okPt (n : Int) (l : List Int) (n' : Int) (l' : List Int) (s : Int) : Bool := areV n l n' l' && (isSet n s && (ptV l l' s.toNat).isSome)
def pt1 (l l' : List Int) (s : Int) : Int := optI (ptV l l' s.toNat)
def tPt : Tab
  | [.ag [.i n, .sl .i64 l], .ag [.i n', .sl .i64 l'], .i s] => some (True, .tu [.i (or0 (okPt n l n' l' s) (pt1 l l' s)), .i (or0 (okPt n l n' l' s) (s - pt1 l l' s)), .b (okPt n l n' l' s)], [])
  | _ => none
theorem spl_pre {n n' : Int} {l l' : List Int} {s : Int} (h : areV n l n' l' = true) (hs : 0 ≤ s ∧ s < 2 ^ n.toNat) : splPre n l n' l' s = True := by
  obtain ⟨h1, h2, rfl⟩ := are_iff.1 h
  exact eq_true ⟨mat_fn h1, mat_fn h2, rfl, hs⟩
theorem ptV_zero {l l' : List Int} {s t : Nat} (hs : s < 64) (h : ptV l l' s = some t) : iandn (s : Int) (t : Int) = (s : Int) - (t : Int) := by
  have h1 := seek_lt h
  have h2 := h1.2.2
  unfold ptP at h2
  rw [Bool.and_eq_true, decide_eq_true_eq] at h2
  exact iandn_sub (by omega) hs ((iandn_zero' (by omega) hs).2 h2.1)
theorem implPt_ok : Fits Try.prog 17 tPt := by
  refine ⟨callable_of Try.func17 (by kernel_rfl) rfl, ?_⟩
  intro args p out Ho h hp
  unfold tPt at h
  split at h <;> cases h
  rename_i n l n' l' s
  refine ⟨acall_by (env_ok (env := [(115, tAre), (128, tIsSetOf), (123, tParts)]) (by simp only [List.forall_mem_cons, List.not_mem_nil, false_implies, implies_true, and_true]; exact ⟨are_ok, isSetOf_ok, parts_ok⟩)) Try.func17 rfl rfl rfl rfl rfl ?_, rfl, rfl⟩
  intro hlen c hc hX
  simp only [lensOk, AV.lenOk, true_and, and_true] at hlen
  simp only [Try.ntmps17, Try.results17, List.length_cons, List.length_nil, List.replicate, List.cons_append, List.nil_append, Nat.reduceAdd, Nat.reduceSub]
  cases hg : areV n l n' l' with
  | false =>
    have hok : okPt n l n' l' s = false := by rw [okPt, hg, Bool.false_and]
    rw [hok]
    repeat' first | ((with_reducible show aol _ _ _ _ _); first | (refine aol_guard_f (by rfl) ?_ ?_; (focus (simp only [go_sem]; done))) | (refine aol_guard_un (by rfl) ?_ ?_; (focus (simp only [go_sem]; done))) | ((first | (refine aol_guard_t (by rfl) ?_ ?_; (focus (simp only [go_sem]; done))) | (refine aol_guard_b (by rfl) (by rfl) (fun h => ?_) (fun h => ?_) <;> (try simp only [hsA, hsB, hsC, hsD, List.all_cons, List.all_nil, ne_eq, reduceCtorEq, inR_iff, inR_not, isSet_iff, isSet_not] at h))) <;> simp (config := { maxSteps := 2000000 }) (disch := omega) only [go_sem, ↓reduceIte, Nat.reduceEqDiff, Nat.reduceAdd, Nat.reduceLT, Nat.reduceLeDiff, Nat.reduceSub, tAre, hg]) | simp (config := { maxSteps := 2000000 }) (disch := omega) only [go_sem, ↓reduceIte, Nat.reduceEqDiff, Nat.reduceAdd, Nat.reduceLT, Nat.reduceLeDiff, Nat.reduceSub, tAre, hg]) | ((with_reducible refine hK _ ?_); clear hK K; try simp only [thn_n, blk_n, fin_n, finm_n]) | (with_reducible refine awp_seq fun K hK => ?_) | ((with_reducible show Awp _ _ (Code.region _ _ _) _ _); (first | refine awp_regK (by repeat constructor) (fun K hK => ?_) | (refine awp_drwK (by kernel_rfl) (by repeat constructor) (fun K hK => ?_))); simp (config := { maxSteps := 2000000 }) (disch := omega) only [go_sem, ↓reduceIte, Nat.reduceEqDiff, Nat.reduceAdd, Nat.reduceLT, Nat.reduceLeDiff, Nat.reduceSub, tAre, hg]) | ((with_reducible show Awp _ _ (Code.cond _ _ _) _ _); refine awp_cond rfl (fun h => ?_) (fun h => ?_) <;> (try simp only [hsA, hsB, hsC, hsD, List.all_cons, List.all_nil, ne_eq, reduceCtorEq, inR_iff, inR_not, isSet_iff, isSet_not] at h)) | ((with_reducible refine awp_skip ?_); simp only [thn_n, blk_n, fin_n, finm_n]) | ((with_reducible refine awp_ret ?_); simp only [thn_r, blk_r, fin_r, finm_r]) | (with_reducible refine awp_block ?_) | ((with_reducible refine awp_exit ?_); simp only [thn_e, blk_e, blk_x, blk_n, thn_n, ne_eq, not_false_eq_true, Nat.reduceEqDiff, reduceCtorEq]; first | (refine hK _ ?_; clear hK K) | (clear hK K; refine hK _ ?_; clear hK K) | (clear hK K; clear hK K; refine hK _ ?_; clear hK K) | (clear hK K; clear hK K; clear hK K; refine hK _ ?_; clear hK K) | skip) | (with_reducible apply And.intro) | (with_reducible exact True.intro) | ((with_reducible show List.all _ _ = true); rfl) | ((with_reducible show lendOk _ _ = true); rfl) | omega | ((first | (with_reducible show ¬ _) | (with_reducible show _ → _)); intro h; first | contradiction | cases h; done | skip)
    all_goals (try (first | refine fin_keep ?_ | refine finm_keep ?_; repeat clear hK))
    exact fin_tmp3 rfl rfl rfl rfl
  | true =>
    have hn := (fnV_iff.1 (mat_fn (are_iff.1 hg).1)).1
    by_cases hs : 0 ≤ s ∧ s < 2 ^ n.toNat
    · have hi := isSet_in hs
      have hpre := spl_pre hg hs
      obtain ⟨s, rfl⟩ := Int.eq_ofNat_of_zero_le hs.1
      have hs' := set_fn ⟨mat_fn (are_iff.1 hg).1, hs⟩
      cases hv : ptV l l' s with
      | none =>
        have hok : okPt n l n' l' (s : Int) = false := by rw [okPt, Int.toNat_natCast, hv, Option.isSome, Bool.and_false, Bool.and_false]
        rw [hok]
        repeat' first | ((with_reducible show aol _ _ _ _ _); first | (refine aol_guard_f (by rfl) ?_ ?_; (focus (simp only [go_sem]; done))) | (refine aol_guard_un (by rfl) ?_ ?_; (focus (simp only [go_sem]; done))) | ((first | (refine aol_guard_t (by rfl) ?_ ?_; (focus (simp only [go_sem]; done))) | (refine aol_guard_b (by rfl) (by rfl) (fun h => ?_) (fun h => ?_) <;> (try simp only [hsA, hsB, hsC, hsD, List.all_cons, List.all_nil, ne_eq, reduceCtorEq, inR_iff, inR_not, isSet_iff, isSet_not] at h))) <;> simp (config := { maxSteps := 2000000 }) (disch := omega) only [go_sem, ↓reduceIte, Nat.reduceEqDiff, Nat.reduceAdd, Nat.reduceLT, Nat.reduceLeDiff, Nat.reduceSub, tAre, hg, tIsSetOf, hi, tParts, hpre, hv, optI, Option.isSome]) | simp (config := { maxSteps := 2000000 }) (disch := omega) only [go_sem, ↓reduceIte, Nat.reduceEqDiff, Nat.reduceAdd, Nat.reduceLT, Nat.reduceLeDiff, Nat.reduceSub, tAre, hg, tIsSetOf, hi, tParts, hpre, hv, optI, Option.isSome]) | ((with_reducible refine hK _ ?_); clear hK K; try simp only [thn_n, blk_n, fin_n, finm_n]) | (with_reducible refine awp_seq fun K hK => ?_) | ((with_reducible show Awp _ _ (Code.region _ _ _) _ _); (first | refine awp_regK (by repeat constructor) (fun K hK => ?_) | (refine awp_drwK (by kernel_rfl) (by repeat constructor) (fun K hK => ?_))); simp (config := { maxSteps := 2000000 }) (disch := omega) only [go_sem, ↓reduceIte, Nat.reduceEqDiff, Nat.reduceAdd, Nat.reduceLT, Nat.reduceLeDiff, Nat.reduceSub, tAre, hg, tIsSetOf, hi, tParts, hpre, hv, optI, Option.isSome]) | ((with_reducible show Awp _ _ (Code.cond _ _ _) _ _); refine awp_cond rfl (fun h => ?_) (fun h => ?_) <;> (try simp only [hsA, hsB, hsC, hsD, List.all_cons, List.all_nil, ne_eq, reduceCtorEq, inR_iff, inR_not, isSet_iff, isSet_not] at h)) | ((with_reducible refine awp_skip ?_); simp only [thn_n, blk_n, fin_n, finm_n]) | ((with_reducible refine awp_ret ?_); simp only [thn_r, blk_r, fin_r, finm_r]) | (with_reducible refine awp_block ?_) | ((with_reducible refine awp_exit ?_); simp only [thn_e, blk_e, blk_x, blk_n, thn_n, ne_eq, not_false_eq_true, Nat.reduceEqDiff, reduceCtorEq]; first | (refine hK _ ?_; clear hK K) | (clear hK K; refine hK _ ?_; clear hK K) | (clear hK K; clear hK K; refine hK _ ?_; clear hK K) | (clear hK K; clear hK K; clear hK K; refine hK _ ?_; clear hK K) | skip) | (with_reducible apply And.intro) | (with_reducible exact True.intro) | ((with_reducible show List.all _ _ = true); rfl) | ((with_reducible show lendOk _ _ = true); rfl) | omega | ((first | (with_reducible show ¬ _) | (with_reducible show _ → _)); intro h; first | contradiction | cases h; done | skip)
        all_goals (try (first | refine fin_keep ?_ | refine finm_keep ?_; repeat clear hK))
        all_goals first | exact fin_tmp3 rfl rfl rfl rfl | omega
      | some t =>
        have hok : okPt n l n' l' (s : Int) = true := by rw [okPt, Int.toNat_natCast, hv, hg, hi]; rfl
        have hle := ptV_le hv
        have hx := ptV_zero (by omega) hv
        have h1 : pt1 l l' (s : Int) = t := by rw [pt1, Int.toNat_natCast, hv]; rfl
        rw [hok, h1]
        repeat' first | ((with_reducible show aol _ _ _ _ _); first | (refine aol_guard_f (by rfl) ?_ ?_; (focus (simp only [go_sem]; done))) | (refine aol_guard_un (by rfl) ?_ ?_; (focus (simp only [go_sem]; done))) | ((first | (refine aol_guard_t (by rfl) ?_ ?_; (focus (simp only [go_sem]; done))) | (refine aol_guard_b (by rfl) (by rfl) (fun h => ?_) (fun h => ?_) <;> (try simp only [hsA, hsB, hsC, hsD, List.all_cons, List.all_nil, ne_eq, reduceCtorEq, inR_iff, inR_not, isSet_iff, isSet_not] at h))) <;> simp (config := { maxSteps := 2000000 }) (disch := omega) only [go_sem, ↓reduceIte, Nat.reduceEqDiff, Nat.reduceAdd, Nat.reduceLT, Nat.reduceLeDiff, Nat.reduceSub, tAre, hg, tIsSetOf, hi, tParts, hpre, hv, optI, Option.isSome, hx]) | simp (config := { maxSteps := 2000000 }) (disch := omega) only [go_sem, ↓reduceIte, Nat.reduceEqDiff, Nat.reduceAdd, Nat.reduceLT, Nat.reduceLeDiff, Nat.reduceSub, tAre, hg, tIsSetOf, hi, tParts, hpre, hv, optI, Option.isSome, hx]) | ((with_reducible refine hK _ ?_); clear hK K; try simp only [thn_n, blk_n, fin_n, finm_n]) | (with_reducible refine awp_seq fun K hK => ?_) | ((with_reducible show Awp _ _ (Code.region _ _ _) _ _); (first | refine awp_regK (by repeat constructor) (fun K hK => ?_) | (refine awp_drwK (by kernel_rfl) (by repeat constructor) (fun K hK => ?_))); simp (config := { maxSteps := 2000000 }) (disch := omega) only [go_sem, ↓reduceIte, Nat.reduceEqDiff, Nat.reduceAdd, Nat.reduceLT, Nat.reduceLeDiff, Nat.reduceSub, tAre, hg, tIsSetOf, hi, tParts, hpre, hv, optI, Option.isSome, hx]) | ((with_reducible show Awp _ _ (Code.cond _ _ _) _ _); refine awp_cond rfl (fun h => ?_) (fun h => ?_) <;> (try simp only [hsA, hsB, hsC, hsD, List.all_cons, List.all_nil, ne_eq, reduceCtorEq, inR_iff, inR_not, isSet_iff, isSet_not] at h)) | ((with_reducible refine awp_skip ?_); simp only [thn_n, blk_n, fin_n, finm_n]) | ((with_reducible refine awp_ret ?_); simp only [thn_r, blk_r, fin_r, finm_r]) | (with_reducible refine awp_block ?_) | ((with_reducible refine awp_exit ?_); simp only [thn_e, blk_e, blk_x, blk_n, thn_n, ne_eq, not_false_eq_true, Nat.reduceEqDiff, reduceCtorEq]; first | (refine hK _ ?_; clear hK K) | (clear hK K; refine hK _ ?_; clear hK K) | (clear hK K; clear hK K; refine hK _ ?_; clear hK K) | (clear hK K; clear hK K; clear hK K; refine hK _ ?_; clear hK K) | skip) | (with_reducible apply And.intro) | (with_reducible exact True.intro) | ((with_reducible show List.all _ _ = true); rfl) | ((with_reducible show lendOk _ _ = true); rfl) | omega | ((first | (with_reducible show ¬ _) | (with_reducible show _ → _)); intro h; first | contradiction | cases h; done | skip)
        all_goals (try (first | refine fin_keep ?_ | refine finm_keep ?_; repeat clear hK))
        all_goals first | exact fin_tmp3 rfl rfl rfl rfl | omega
    · have hi := isSet_out hs
      have hok : okPt n l n' l' s = false := by rw [okPt, hi, Bool.false_and, Bool.and_false]
      rw [hok]
      repeat' first | ((with_reducible show aol _ _ _ _ _); first | (refine aol_guard_f (by rfl) ?_ ?_; (focus (simp only [go_sem]; done))) | (refine aol_guard_un (by rfl) ?_ ?_; (focus (simp only [go_sem]; done))) | ((first | (refine aol_guard_t (by rfl) ?_ ?_; (focus (simp only [go_sem]; done))) | (refine aol_guard_b (by rfl) (by rfl) (fun h => ?_) (fun h => ?_) <;> (try simp only [hsA, hsB, hsC, hsD, List.all_cons, List.all_nil, ne_eq, reduceCtorEq, inR_iff, inR_not, isSet_iff, isSet_not] at h))) <;> simp (config := { maxSteps := 2000000 }) (disch := omega) only [go_sem, ↓reduceIte, Nat.reduceEqDiff, Nat.reduceAdd, Nat.reduceLT, Nat.reduceLeDiff, Nat.reduceSub, tAre, hg, tIsSetOf, hi]) | simp (config := { maxSteps := 2000000 }) (disch := omega) only [go_sem, ↓reduceIte, Nat.reduceEqDiff, Nat.reduceAdd, Nat.reduceLT, Nat.reduceLeDiff, Nat.reduceSub, tAre, hg, tIsSetOf, hi]) | ((with_reducible refine hK _ ?_); clear hK K; try simp only [thn_n, blk_n, fin_n, finm_n]) | (with_reducible refine awp_seq fun K hK => ?_) | ((with_reducible show Awp _ _ (Code.region _ _ _) _ _); (first | refine awp_regK (by repeat constructor) (fun K hK => ?_) | (refine awp_drwK (by kernel_rfl) (by repeat constructor) (fun K hK => ?_))); simp (config := { maxSteps := 2000000 }) (disch := omega) only [go_sem, ↓reduceIte, Nat.reduceEqDiff, Nat.reduceAdd, Nat.reduceLT, Nat.reduceLeDiff, Nat.reduceSub, tAre, hg, tIsSetOf, hi]) | ((with_reducible show Awp _ _ (Code.cond _ _ _) _ _); refine awp_cond rfl (fun h => ?_) (fun h => ?_) <;> (try simp only [hsA, hsB, hsC, hsD, List.all_cons, List.all_nil, ne_eq, reduceCtorEq, inR_iff, inR_not, isSet_iff, isSet_not] at h)) | ((with_reducible refine awp_skip ?_); simp only [thn_n, blk_n, fin_n, finm_n]) | ((with_reducible refine awp_ret ?_); simp only [thn_r, blk_r, fin_r, finm_r]) | (with_reducible refine awp_block ?_) | ((with_reducible refine awp_exit ?_); simp only [thn_e, blk_e, blk_x, blk_n, thn_n, ne_eq, not_false_eq_true, Nat.reduceEqDiff, reduceCtorEq]; first | (refine hK _ ?_; clear hK K) | (clear hK K; refine hK _ ?_; clear hK K) | (clear hK K; clear hK K; refine hK _ ?_; clear hK K) | (clear hK K; clear hK K; clear hK K; refine hK _ ?_; clear hK K) | skip) | (with_reducible apply And.intro) | (with_reducible exact True.intro) | ((with_reducible show List.all _ _ = true); rfl) | ((with_reducible show lendOk _ _ = true); rfl) | omega | ((first | (with_reducible show ¬ _) | (with_reducible show _ → _)); intro h; first | contradiction | cases h; done | skip)
      all_goals (try (first | refine fin_keep ?_ | refine finm_keep ?_; repeat clear hK))
      all_goals first | exact fin_tmp3 rfl rfl rfl rfl | omega
theorem specPt_ok : Fits Try.prog 25 tPt := by
  refine ⟨callable_of Try.func25 (by kernel_rfl) rfl, ?_⟩
  intro args p out Ho h hp
  unfold tPt at h
  split at h <;> cases h
  rename_i n l n' l' s
  refine ⟨acall_by (env_ok (env := [(119, tAre), (134, tIn5), (120, tSize2)]) (by simp only [List.forall_mem_cons, List.not_mem_nil, false_implies, implies_true, and_true]; exact ⟨fit_ok, in5_ok, size2_ok⟩)) Try.func25 rfl rfl rfl rfl rfl ?_, rfl, rfl⟩
  intro hlen c hc hX
  simp only [lensOk, AV.lenOk, true_and, and_true] at hlen
  simp only [Try.ntmps25, Try.results25, List.length_cons, List.length_nil, List.replicate, List.cons_append, List.nil_append, Nat.reduceAdd, Nat.reduceSub]
  cases hg : areV n l n' l' with
  | false =>
    have hok : okPt n l n' l' s = false := by rw [okPt, hg, Bool.false_and]
    rw [hok]
    repeat' first | ((with_reducible show aol _ _ _ _ _); first | (refine aol_guard_f (by rfl) ?_ ?_; (focus (simp only [go_sem]; done))) | (refine aol_guard_un (by rfl) ?_ ?_; (focus (simp only [go_sem]; done))) | ((first | (refine aol_guard_t (by rfl) ?_ ?_; (focus (simp only [go_sem]; done))) | (refine aol_guard_b (by rfl) (by rfl) (fun h => ?_) (fun h => ?_) <;> (try simp only [hsA, hsB, hsC, hsD, List.all_cons, List.all_nil, ne_eq, reduceCtorEq, inR_iff, inR_not, isSet_iff, isSet_not] at h))) <;> simp (config := { maxSteps := 2000000 }) (disch := omega) only [go_sem, ↓reduceIte, Nat.reduceEqDiff, Nat.reduceAdd, Nat.reduceLT, Nat.reduceLeDiff, Nat.reduceSub, tAre, hg]) | simp (config := { maxSteps := 2000000 }) (disch := omega) only [go_sem, ↓reduceIte, Nat.reduceEqDiff, Nat.reduceAdd, Nat.reduceLT, Nat.reduceLeDiff, Nat.reduceSub, tAre, hg]) | ((with_reducible refine hK _ ?_); clear hK K; try simp only [thn_n, blk_n, fin_n, finm_n]) | (with_reducible refine awp_seq fun K hK => ?_) | ((with_reducible show Awp _ _ (Code.region _ _ _) _ _); (first | refine awp_regK (by repeat constructor) (fun K hK => ?_) | (refine awp_drwK (by kernel_rfl) (by repeat constructor) (fun K hK => ?_))); simp (config := { maxSteps := 2000000 }) (disch := omega) only [go_sem, ↓reduceIte, Nat.reduceEqDiff, Nat.reduceAdd, Nat.reduceLT, Nat.reduceLeDiff, Nat.reduceSub, tAre, hg]) | ((with_reducible show Awp _ _ (Code.cond _ _ _) _ _); refine awp_cond rfl (fun h => ?_) (fun h => ?_) <;> (try simp only [hsA, hsB, hsC, hsD, List.all_cons, List.all_nil, ne_eq, reduceCtorEq, inR_iff, inR_not, isSet_iff, isSet_not] at h)) | ((with_reducible refine awp_skip ?_); simp only [thn_n, blk_n, fin_n, finm_n]) | ((with_reducible refine awp_ret ?_); simp only [thn_r, blk_r, fin_r, finm_r]) | (with_reducible refine awp_block ?_) | ((with_reducible refine awp_exit ?_); simp only [thn_e, blk_e, blk_x, blk_n, thn_n, ne_eq, not_false_eq_true, Nat.reduceEqDiff, reduceCtorEq]; first | (refine hK _ ?_; clear hK K) | (clear hK K; refine hK _ ?_; clear hK K) | (clear hK K; clear hK K; refine hK _ ?_; clear hK K) | (clear hK K; clear hK K; clear hK K; refine hK _ ?_; clear hK K) | skip) | (with_reducible apply And.intro) | (with_reducible exact True.intro) | ((with_reducible show List.all _ _ = true); rfl) | ((with_reducible show lendOk _ _ = true); rfl) | omega | ((first | (with_reducible show ¬ _) | (with_reducible show _ → _)); intro h; first | contradiction | cases h; done | skip)
    all_goals (try (first | refine fin_keep ?_ | refine finm_keep ?_; repeat clear hK))
    exact fin_tmp3 rfl rfl rfl rfl
  | true =>
    have hm := are_iff.1 hg
    have hfn := mat_fn hm.1
    have hn := (fnV_iff.1 hfn).1
    by_cases hs : 0 ≤ s ∧ s < 2 ^ n.toNat
    · have hi := isSet_in hs
      obtain ⟨s, rfl⟩ := Int.eq_ofNat_of_zero_le hs.1
      have hs' := set_fn ⟨hfn, hs⟩
      have hlen1 := fnV_len hfn
      have hlen2 := fnV_len (mat_fn hm.2.1)
      rw [← hm.2.2] at hlen2
      repeat' first | ((with_reducible show aol _ _ _ _ _); first | (refine aol_guard_f (by rfl) ?_ ?_; (focus (simp only [go_sem]; done))) | (refine aol_guard_un (by rfl) ?_ ?_; (focus (simp only [go_sem]; done))) | ((first | (refine aol_guard_t (by rfl) ?_ ?_; (focus (simp only [go_sem]; done))) | (refine aol_guard_b (by rfl) (by rfl) (fun h => ?_) (fun h => ?_) <;> (try simp only [hsA, hsB, hsC, hsD, List.all_cons, List.all_nil, ne_eq, reduceCtorEq, inR_iff, inR_not, isSet_iff, isSet_not] at h))) <;> simp (config := { maxSteps := 2000000 }) (disch := omega) only [go_sem, ↓reduceIte, Nat.reduceEqDiff, Nat.reduceAdd, Nat.reduceLT, Nat.reduceLeDiff, Nat.reduceSub, tAre, hg, tIn5, hfn, hi]) | simp (config := { maxSteps := 2000000 }) (disch := omega) only [go_sem, ↓reduceIte, Nat.reduceEqDiff, Nat.reduceAdd, Nat.reduceLT, Nat.reduceLeDiff, Nat.reduceSub, tAre, hg, tIn5, hfn, hi]) | ((with_reducible refine hK _ ?_); clear hK K; try simp only [thn_n, blk_n, fin_n, finm_n]) | (with_reducible refine awp_seq fun K hK => ?_) | ((with_reducible show Awp _ _ (Code.region _ _ _) _ _); (first | refine awp_regK (by repeat constructor) (fun K hK => ?_) | (refine awp_drwK (by kernel_rfl) (by repeat constructor) (fun K hK => ?_))); simp (config := { maxSteps := 2000000 }) (disch := omega) only [go_sem, ↓reduceIte, Nat.reduceEqDiff, Nat.reduceAdd, Nat.reduceLT, Nat.reduceLeDiff, Nat.reduceSub, tAre, hg, tIn5, hfn, hi]) | ((with_reducible show Awp _ _ (Code.cond _ _ _) _ _); refine awp_cond rfl (fun h => ?_) (fun h => ?_) <;> (try simp only [hsA, hsB, hsC, hsD, List.all_cons, List.all_nil, ne_eq, reduceCtorEq, inR_iff, inR_not, isSet_iff, isSet_not] at h)) | ((with_reducible refine awp_skip ?_); simp only [thn_n, blk_n, fin_n, finm_n]) | ((with_reducible refine awp_ret ?_); simp only [thn_r, blk_r, fin_r, finm_r]) | (with_reducible refine awp_block ?_) | ((with_reducible refine awp_exit ?_); simp only [thn_e, blk_e, blk_x, blk_n, thn_n, ne_eq, not_false_eq_true, Nat.reduceEqDiff, reduceCtorEq]; first | (refine hK _ ?_; clear hK K) | (clear hK K; refine hK _ ?_; clear hK K) | (clear hK K; clear hK K; refine hK _ ?_; clear hK K) | (clear hK K; clear hK K; clear hK K; refine hK _ ?_; clear hK K) | skip) | (with_reducible apply And.intro) | (with_reducible exact True.intro) | ((with_reducible show List.all _ _ = true); rfl) | ((with_reducible show lendOk _ _ = true); rfl) | omega | ((first | (with_reducible show ¬ _) | (with_reducible show _ → _)); intro h; first | contradiction | cases h; done | skip)
      all_goals (try (first | refine fin_keep ?_ | refine finm_keep ?_; repeat clear hK))
      refine awp_for (fun st (k : Nat) => st.at [2, 3, 4] [(9, .i k)] st.hp) (fun k => k ≤ s + 1 ∧ ptV l l' s = seek (ptP l l' s) (s + 1 - k) k) (fun k => s + 1 - k) 0 ⟨Nat.zero_le _, rfl⟩ ?_ ?_
      · simp [-List.getD_eq_getElem?_getD, -List.length_take, Le, leFr, ASt.at, keepFr, updAll, upd_zero, upd_succ]
      rintro k ⟨hk, ha⟩
      simp only [ASt.at, keepFr, updAll, upd_zero, upd_succ, List.mem_cons, List.not_mem_nil, Nat.reduceEqDiff, Nat.reduceAdd, or_false, or_true, false_or, true_or, ↓reduceIte, eq_self]
      have hno : (k : Int) ≤ (s : Int) → ptP l l' s k = false → ptV l l' s = seek (ptP l l' s) (s + 1 - (k + 1)) (k + 1) := fun h1 h2 => by
        rw [seek_at (by omega), if_neg (by rw [h2]; decide)] at ha; exact ha
      have hfr1 : freeV l (k : Int) = decide (l.getD k 0 = (popN k : Int)) := by rw [freeV, Int.toNat_natCast]
      have hfr2 : freeV l' ((s : Int) - (k : Int)) = decide (l'.getD ((s : Int) - (k : Int)).toNat 0 = (popN ((s : Int) - (k : Int)).toNat : Int)) := rfl
      repeat' first | ((with_reducible show aol _ _ _ _ _); first | (refine aol_guard_f (by rfl) ?_ ?_; (focus (simp only [go_sem]; done))) | (refine aol_guard_un (by rfl) ?_ ?_; (focus (simp only [go_sem]; done))) | ((first | (refine aol_guard_t (by rfl) ?_ ?_; (focus (simp only [go_sem]; done))) | (refine aol_guard_b (by rfl) (by rfl) (fun h => ?_) (fun h => ?_) <;> (try simp only [hsA, hsB, hsC, hsD, List.all_cons, List.all_nil, ne_eq, reduceCtorEq, inR_iff, inR_not, isSet_iff, isSet_not] at h))) <;> simp (config := { maxSteps := 2000000 }) (disch := omega) only [go_sem, ↓reduceIte, Nat.reduceEqDiff, Nat.reduceAdd, Nat.reduceLT, Nat.reduceLeDiff, Nat.reduceSub, tSize2]) | simp (config := { maxSteps := 2000000 }) (disch := omega) only [go_sem, ↓reduceIte, Nat.reduceEqDiff, Nat.reduceAdd, Nat.reduceLT, Nat.reduceLeDiff, Nat.reduceSub, tSize2]) | ((with_reducible refine hK _ ?_); clear hK K; try simp only [thn_n, blk_n, fin_n, finm_n]) | (with_reducible refine awp_seq fun K hK => ?_) | ((with_reducible show Awp _ _ (Code.region _ _ _) _ _); (first | refine awp_regK (by repeat constructor) (fun K hK => ?_) | (refine awp_drwK (by kernel_rfl) (by repeat constructor) (fun K hK => ?_))); simp (config := { maxSteps := 2000000 }) (disch := omega) only [go_sem, ↓reduceIte, Nat.reduceEqDiff, Nat.reduceAdd, Nat.reduceLT, Nat.reduceLeDiff, Nat.reduceSub, tSize2]) | ((with_reducible show Awp _ _ (Code.cond _ _ _) _ _); refine awp_cond rfl (fun h => ?_) (fun h => ?_) <;> (try simp only [hsA, hsB, hsC, hsD, List.all_cons, List.all_nil, ne_eq, reduceCtorEq, inR_iff, inR_not, isSet_iff, isSet_not] at h)) | ((with_reducible refine awp_skip ?_); simp only [thn_n, blk_n, fin_n, finm_n]) | ((with_reducible refine awp_ret ?_); simp only [thn_r, blk_r, fin_r, finm_r]) | (with_reducible refine awp_block ?_) | ((with_reducible refine awp_exit ?_); simp only [thn_e, blk_e, blk_x, blk_n, thn_n, ne_eq, not_false_eq_true, Nat.reduceEqDiff, reduceCtorEq]; first | (refine hK _ ?_; clear hK K) | (clear hK K; refine hK _ ?_; clear hK K) | (clear hK K; clear hK K; refine hK _ ?_; clear hK K) | (clear hK K; clear hK K; clear hK K; refine hK _ ?_; clear hK K) | skip) | (with_reducible apply And.intro) | (with_reducible exact True.intro) | ((with_reducible show List.all _ _ = true); rfl) | ((with_reducible show lendOk _ _ = true); rfl) | omega | ((first | (with_reducible show ¬ _) | (with_reducible show _ → _)); intro h; first | contradiction | cases h; done | skip)
      all_goals (try (first | refine fin_keep ?_ | refine finm_keep ?_; repeat clear hK))
      · have h2 : iand (k : Int) (s : Int) = k := by assumption
        have h3 : l.getD k 0 = (popN k : Int) := by assumption
        have hpt : ptP l l' s k = true := by rw [ptP, hfr1, hfr2, decide_eq_true h2, decide_eq_true h3, decide_eq_true h]; rfl
        rw [seek_at (by omega), if_pos hpt] at ha
        have hok : okPt n l n' l' (s : Int) = true := by rw [okPt, Int.toNat_natCast, ha, hg, hi]; rfl
        have h4 : pt1 l l' (s : Int) = k := by rw [pt1, Int.toNat_natCast, ha]; rfl
        rw [hok, h4]; exact fin_tmp3 rfl rfl rfl rfl
      · have h1 : (k : Int) ≤ (s : Int) := by assumption
        refine ⟨k + 1, ⟨by omega, hno h1 (by rw [ptP, hfr1, hfr2, decide_eq_false h, Bool.and_false, Bool.and_false])⟩, by omega, ?_⟩
        simp [-List.getD_eq_getElem?_getD, -List.length_take, Le, leFr, ASt.at, keepFr, updAll, upd_zero, upd_succ]
      · have h1 : (k : Int) ≤ (s : Int) := by assumption
        have h2 : ¬ l.getD k 0 = (popN k : Int) := by assumption
        refine ⟨k + 1, ⟨by omega, hno h1 (by rw [ptP, hfr1, decide_eq_false h2, Bool.false_and, Bool.and_false])⟩, by omega, ?_⟩
        simp [-List.getD_eq_getElem?_getD, -List.length_take, Le, leFr, ASt.at, keepFr, updAll, upd_zero, upd_succ]
      · have h1 : (k : Int) ≤ (s : Int) := by assumption
        have h2 : ¬ iand (k : Int) (s : Int) = k := by assumption
        refine ⟨k + 1, ⟨by omega, hno h1 (by rw [ptP, decide_eq_false h2, Bool.false_and])⟩, by omega, ?_⟩
        simp [-List.getD_eq_getElem?_getD, -List.length_take, Le, leFr, ASt.at, keepFr, updAll, upd_zero, upd_succ]
      · obtain rfl : k = s + 1 := by omega
        rw [Nat.sub_self] at ha
        have hok : okPt n l n' l' (s : Int) = false := by rw [okPt, Int.toNat_natCast, ha, seek, Option.isSome, Bool.and_false, Bool.and_false]
        rw [hok]; exact fin_tmp3 rfl rfl rfl rfl
    · have hi := isSet_out hs
      have hok : okPt n l n' l' s = false := by rw [okPt, hi, Bool.false_and, Bool.and_false]
      have hin : (fnV n l && isSet n s) = false := by rw [hi, Bool.and_false]
      rw [hok]
      repeat' first | ((with_reducible show aol _ _ _ _ _); first | (refine aol_guard_f (by rfl) ?_ ?_; (focus (simp only [go_sem]; done))) | (refine aol_guard_un (by rfl) ?_ ?_; (focus (simp only [go_sem]; done))) | ((first | (refine aol_guard_t (by rfl) ?_ ?_; (focus (simp only [go_sem]; done))) | (refine aol_guard_b (by rfl) (by rfl) (fun h => ?_) (fun h => ?_) <;> (try simp only [hsA, hsB, hsC, hsD, List.all_cons, List.all_nil, ne_eq, reduceCtorEq, inR_iff, inR_not, isSet_iff, isSet_not] at h))) <;> simp (config := { maxSteps := 2000000 }) (disch := omega) only [go_sem, ↓reduceIte, Nat.reduceEqDiff, Nat.reduceAdd, Nat.reduceLT, Nat.reduceLeDiff, Nat.reduceSub, tAre, hg, tIn5, hin]) | simp (config := { maxSteps := 2000000 }) (disch := omega) only [go_sem, ↓reduceIte, Nat.reduceEqDiff, Nat.reduceAdd, Nat.reduceLT, Nat.reduceLeDiff, Nat.reduceSub, tAre, hg, tIn5, hin]) | ((with_reducible refine hK _ ?_); clear hK K; try simp only [thn_n, blk_n, fin_n, finm_n]) | (with_reducible refine awp_seq fun K hK => ?_) | ((with_reducible show Awp _ _ (Code.region _ _ _) _ _); (first | refine awp_regK (by repeat constructor) (fun K hK => ?_) | (refine awp_drwK (by kernel_rfl) (by repeat constructor) (fun K hK => ?_))); simp (config := { maxSteps := 2000000 }) (disch := omega) only [go_sem, ↓reduceIte, Nat.reduceEqDiff, Nat.reduceAdd, Nat.reduceLT, Nat.reduceLeDiff, Nat.reduceSub, tAre, hg, tIn5, hin]) | ((with_reducible show Awp _ _ (Code.cond _ _ _) _ _); refine awp_cond rfl (fun h => ?_) (fun h => ?_) <;> (try simp only [hsA, hsB, hsC, hsD, List.all_cons, List.all_nil, ne_eq, reduceCtorEq, inR_iff, inR_not, isSet_iff, isSet_not] at h)) | ((with_reducible refine awp_skip ?_); simp only [thn_n, blk_n, fin_n, finm_n]) | ((with_reducible refine awp_ret ?_); simp only [thn_r, blk_r, fin_r, finm_r]) | (with_reducible refine awp_block ?_) | ((with_reducible refine awp_exit ?_); simp only [thn_e, blk_e, blk_x, blk_n, thn_n, ne_eq, not_false_eq_true, Nat.reduceEqDiff, reduceCtorEq]; first | (refine hK _ ?_; clear hK K) | (clear hK K; refine hK _ ?_; clear hK K) | (clear hK K; clear hK K; refine hK _ ?_; clear hK K) | (clear hK K; clear hK K; clear hK K; refine hK _ ?_; clear hK K) | skip) | (with_reducible apply And.intro) | (with_reducible exact True.intro) | ((with_reducible show List.all _ _ = true); rfl) | ((with_reducible show lendOk _ _ = true); rfl) | omega | ((first | (with_reducible show ¬ _) | (with_reducible show _ → _)); intro h; first | contradiction | cases h; done | skip)
      all_goals (try (first | refine fin_keep ?_ | refine finm_keep ?_; repeat clear hK))
      exact fin_tmp3 rfl rfl rfl rfl
end Go.Proofs.Ytjlpjkiadohkiaa
