import Derived.Test.YthoionlldmfpiaaGreatT36
import Derived.Test.YthoionlldmfpiaaGreatT28
import Derived.Test.YthoionlldmfpiaaGreatHs
import Derived.Test.YthoionlldmfpiaaGreatAbJ
set_option linter.unusedSimpArgs false
set_option linter.unusedVariables false
set_option maxHeartbeats 2000000
namespace Go.Proofs.YthoionlldmfpiaaGreat
open Go Go.Ab
attribute [local irreducible] aol
attribute [local irreducible] popN
theorem putV_at {n : Int} : ∀ {l : List Int} {k : Nat}, k ≤ l.length → (∀ m, m < k → l.getD m 0 < n) → (k < l.length → n < l.getD k 0) → putV l n = l.take k ++ [n] ++ l.drop k
  | [], k, h, _, _ => by
    obtain rfl : k = 0 := by simpa using h
    rfl
  | x :: xs, 0, _, _, h => by
    have h0 : n < x := h (by simp)
    unfold putV; rw [if_pos h0]; rfl
  | x :: xs, k + 1, h, h1, h2 => by
    have h0 : x < n := h1 0 (by omega)
    unfold putV
    rw [if_neg (by omega), if_neg (by omega), putV_at (l := xs) (k := k) (by simpa using h) (fun m hm => by simpa using h1 (m + 1) (by omega)) (fun hk => by simpa using h2 (by simpa using hk))]
    rfl
theorem putV_len (n : Int) : ∀ l : List Int, (putV l n).length ≤ l.length + 1
  | [] => by simp [putV]
  | x :: xs => by
    unfold putV
    split
    · simp
    · split
      · simp
      · have := putV_len n xs
        simp; omega
theorem put_below {l : List Int} {n : Int} {k : Nat} (hinc : incB l = true) (hk : k ≤ l.length) (h : (k : Int) ≤ 0 ∨ (l.getD (k - 1) 0 ≤ n ∧ ¬ l.getD (k - 1) 0 = n)) {m : Nat} (hm : m < k) : l.getD m 0 < n := by
  rcases h with h | ⟨h1, h2⟩
  · omega
  · by_cases e : m = k - 1
    · subst e; omega
    · have := inc_lt hinc (i := m) (j := k - 1) (by omega) (by omega); omega
theorem put_split {l : List Int} {n : Int} {k : Nat} (hinc : incB l = true) (hk : k ≤ l.length) (ha : ∀ m, k ≤ m → m < l.length → n < l.getD m 0) (h : (k : Int) ≤ 0 ∨ (l.getD (k - 1) 0 ≤ n ∧ ¬ l.getD (k - 1) 0 = n)) :
    putV l n = l.take k ++ [n] ++ l.drop k := putV_at hk (fun m hm => put_below hinc hk h hm) (fun hk' => ha k (Nat.le_refl _) hk')
theorem put_no {l : List Int} {n : Int} {k : Nat} (hinc : incB l = true) (hk : k ≤ l.length) (ha : ∀ m, k ≤ m → m < l.length → n < l.getD m 0) (h : (k : Int) ≤ 0 ∨ (l.getD (k - 1) 0 ≤ n ∧ ¬ l.getD (k - 1) 0 = n)) : ¬ n ∈ l := fun hx => by
  obtain ⟨m, hm, e⟩ := List.getElem_of_mem hx
  have e' : l.getD m 0 = n := by rw [List.getD_eq_getElem?_getD, List.getElem?_eq_getElem hm]; exact e
  rcases Nat.lt_or_ge m k with h' | h'
  · have := put_below hinc hk h h'; omega
  · have := ha m h' hm; omega
def tPut0 : Tab
  | [.sl .i64 l, .i n] => some (¬ n ∈ l ∧ incB l = true ∧ l.length ≤ 1000000, .own 0, [.row .i64 3 (putV l n)])
  | _ => none
theorem put0_ok : Fits Tryz.prog 123 tPut0 := by
  refine ⟨callable_of Tryz.func123 (by kernel_rfl) rfl, ?_⟩
  intro args p out Ho h hp
  unfold tPut0 at h
  split at h <;> cases h
  rename_i l n
  refine ⟨acall_by (env_ok (env := []) (by simp)) Tryz.func123 rfl rfl rfl rfl rfl ?_, rfl, rfl⟩
  intro hlen c hc hX
  simp only [lensOk, AV.lenOk, true_and, and_true] at hlen
  simp only [Tryz.ntmps123, Tryz.results123, lsA, List.replicate, Nat.reduceAdd, Nat.reduceSub]
  obtain ⟨hn, hinc, hlb⟩ := hp
  repeat' first | ((with_reducible show aol _ _ _ _ _); first|(refine gF (by rfl) ?_ ?_; focus simp only [go_sem]; done)|(refine gU (by rfl) ?_ ?_; focus simp only [go_sem]; done))|((with_reducible refine hK _ ?_); clear hK K; try simp only [nx])|(with_reducible first|refine aS fun K hK => ?_|refine aB ?_|apply And.intro|exact True.intro)|((first|((with_reducible show aol _ _ _ _ _); try first|(refine gT (by rfl) ?_ ?_; focus simp only [go_sem]; done)|refine gB (by rfl) (by rfl) (fun h => ?_) (fun h => ?_) <;> (try simp only [hsX, reduceCtorEq] at h))|((with_reducible show Awp _ _ (Code.region _ _ _) _ _); first|refine rK (by repeat constructor) (fun K hK => ?_)|(refine dK (by kernel_rfl) (by repeat constructor) (fun K hK => ?_)))) <;> simp (maxSteps := 2000000) (disch := omega) only [go_sem, ↓reduceIte, Nat.reduceEqDiff, Nat.reduceAdd, Nat.reduceLT, Nat.reduceLeDiff, Nat.reduceSub])|((with_reducible show Awp _ _ (Code.cond _ _ _) _ _); refine aC rfl (fun h => ?_) (fun h => ?_) <;> (try simp only [hsX, reduceCtorEq] at h))|((with_reducible first|refine aK ?_|refine aR ?_); simp only [nx])|((with_reducible refine aE ?_); simp only [nx, ne_eq, not_false_eq_true, Nat.reduceEqDiff, reduceCtorEq]; try ((repeat ((fail_if_success refine hK _ ?_); clear hK K)); refine hK _ ?_; clear hK K))|((with_reducible first|show List.all _ _ = true|show lendOk _ _ = true); rfl)|omega|((with_reducible first|show ¬ _|show _ → _); intro h; first|contradiction|cases h; done|skip)
  all_goals (try (first|refine fK ?_|refine fM ?_; repeat clear hK))
  refine awp_for (fun s (k : Nat) => s.at [0, 1] [(5, .i k)] s.hp) (fun k => k ≤ l.length ∧ ∀ m, k ≤ m → m < l.length → n < l.getD m 0) (fun k => k) l.length ⟨Nat.le_refl _, fun m h1 h2 => by omega⟩ ?_ ?_
  · simp [-List.getD_eq_getElem?_getD, -List.length_take, Le, leFr, ASt.at, keepFr, updAll, upd_zero, upd_succ]
  rintro k ⟨hk, ha⟩
  simp only [ASt.at, keepFr, updAll, upd_zero, upd_succ, lgA, Nat.reduceEqDiff, Nat.reduceAdd, ↓reduceIte, eq_self]
  have tn : ((k : Int) - 1).toNat = k - 1 := by omega
  have hs1 : (l.take k).length + (l.drop k).length = l.length := by rw [← List.length_append, List.take_append_drop]
  have hs2 : (l.take k ++ [n]).length = (l.take k).length + 1 := by rw [List.length_append]; rfl
  repeat' first | ((with_reducible show aol _ _ _ _ _); first|(refine gF (by rfl) ?_ ?_; focus simp only [go_sem]; done)|(refine gU (by rfl) ?_ ?_; focus simp only [go_sem]; done))|((with_reducible refine hK _ ?_); clear hK K; try simp only [nx])|(with_reducible first|refine aS fun K hK => ?_|refine aB ?_|apply And.intro|exact True.intro)|(((with_reducible show aol _ _ _ _ _); try first|(refine gT (by rfl) ?_ ?_; focus simp only [go_sem]; done)|refine gB (by rfl) (by rfl) (fun h => ?_) (fun h => ?_) <;> (try simp only [hsX, reduceCtorEq] at h)) <;> simp (maxSteps := 2000000) (disch := omega) only [go_sem, ↓reduceIte, Nat.reduceEqDiff, Nat.reduceAdd, Nat.reduceLT, Nat.reduceLeDiff, Nat.reduceSub, tn])|((with_reducible show Awp _ _ (Code.region _ _ _) _ _); first|(refine rK (by repeat constructor) (fun K hK => ?_); simp (maxSteps := 2000000) (disch := omega) only [go_sem, ↓reduceIte, Nat.reduceEqDiff, Nat.reduceAdd, Nat.reduceLT, Nat.reduceLeDiff, Nat.reduceSub, tn])|(refine awp_ordersK [[1, 2, 3, 5, 8, 9, 10, 0, 4, 6, 7, 11, 12], [1, 2, 3, 5, 8, 9, 10, 0, 6, 4, 7, 11, 12], [1, 2, 3, 5, 8, 9, 10, 6, 0, 4, 7, 11, 12]] (by kernel_rfl) (by kernel_rfl) (by repeat constructor) (fun K hK => ?_); simp only [Alls, and_true]; (repeat' apply And.intro) <;> (refine ⟨_, by repeat constructor, ?_⟩; simp (config := { maxSteps := 2000000 }) (disch := omega) only [go_sem, ↓reduceIte, Nat.reduceEqDiff, Nat.reduceAdd, Nat.reduceLT, Nat.reduceLeDiff, Nat.reduceSub, tn])))|((with_reducible show Awp _ _ (Code.cond _ _ _) _ _); refine aC rfl (fun h => ?_) (fun h => ?_) <;> (try simp only [hsX, reduceCtorEq] at h))|((with_reducible first|refine aK ?_|refine aR ?_); simp only [nx])|((with_reducible refine aE ?_); simp only [nx, ne_eq, not_false_eq_true, Nat.reduceEqDiff, reduceCtorEq]; try ((repeat ((fail_if_success refine hK _ ?_); clear hK K)); refine hK _ ?_; clear hK K))|((with_reducible first|show List.all _ _ = true|show lendOk _ _ = true); rfl)|omega|((with_reducible first|show ¬ _|show _ → _); intro h; first|contradiction|cases h; done|skip)
  all_goals (try (first|refine fK ?_|refine fM ?_; repeat clear hK))
  · refine ⟨k - 1, ⟨by omega, fun m h1 h2 => ?_⟩, by omega, ?_⟩
    · by_cases e : m = k - 1
      · subst e; assumption
      · exact ha m (by omega) h2
    · have tk : ((k - 1 : Nat) : Int) = (k : Int) - 1 := by omega
      simp [-List.getD_eq_getElem?_getD, -List.length_take, Le, leFr, ASt.at, keepFr, updAll, upd_zero, upd_succ, tk]
  all_goals first
    | (exfalso; exact hn (mem_getD (k := k - 1) (by omega) (by assumption)))
    | (rw [put_split hinc hk ha (.inr ⟨by assumption, by assumption⟩)]; exact fin_own rfl rfl)
    | (rw [put_split hinc hk ha (.inl (by assumption))]; exact fin_own rfl rfl)
def tPut : Tab
  | [.sl .i64 l, .i n] => if n ∈ l then none else tPut0 [.sl .i64 l, .i n]
  | _ => none
theorem put_ok : Fits Tryz.prog 123 tPut := ⟨put0_ok.callable, fun args p out Ho h hp => by
  unfold tPut at h
  split at h
  · split at h
    · cases h
    · exact put0_ok.call _ p out Ho h hp
  · cases h⟩
def tPutM : MTab
  | [.own 0, .i n], [.row .i64 E l] => some (n ∈ l ∧ incB l = true ∧ l.length ≤ 1000000, .own 0, [.row .i64 E l])
  | _, _ => none
theorem putM_ok : FitsM Tryz.prog 123 tPutM := by
  refine ⟨?_⟩
  intro args L p out Ho h hp
  unfold tPutM at h
  split at h <;> cases h
  rename_i n E l
  refine mok_by (env_ok (env := []) (by simp)) (callable_of Tryz.func123 (by kernel_rfl) rfl) Tryz.func123 rfl rfl rfl rfl rfl (by simp) ?_
  intro hlen c hc hX
  simp only [lensIn, AV.lenIn, AV.lenOk, List.getElem?_cons_zero, List.getElem?_cons_succ, true_and, and_true] at hlen
  simp only [Tryz.ntmps123, Tryz.results123, lsA, List.replicate, Nat.reduceAdd, Nat.reduceSub]
  obtain ⟨hn, hinc, hlb⟩ := hp
  repeat' first | ((with_reducible show aol _ _ _ _ _); first|(refine gF (by rfl) ?_ ?_; focus simp only [go_sem]; done)|(refine gU (by rfl) ?_ ?_; focus simp only [go_sem]; done))|((with_reducible refine hK _ ?_); clear hK K; try simp only [nx])|(with_reducible first|refine aS fun K hK => ?_|refine aB ?_|apply And.intro|exact True.intro)|((first|((with_reducible show aol _ _ _ _ _); try first|(refine gT (by rfl) ?_ ?_; focus simp only [go_sem]; done)|refine gB (by rfl) (by rfl) (fun h => ?_) (fun h => ?_) <;> (try simp only [hsX, reduceCtorEq] at h))|((with_reducible show Awp _ _ (Code.region _ _ _) _ _); first|refine rK (by repeat constructor) (fun K hK => ?_)|(refine dK (by kernel_rfl) (by repeat constructor) (fun K hK => ?_)))) <;> simp (maxSteps := 2000000) (disch := omega) only [go_sem, ↓reduceIte, Nat.reduceEqDiff, Nat.reduceAdd, Nat.reduceLT, Nat.reduceLeDiff, Nat.reduceSub])|((with_reducible show Awp _ _ (Code.cond _ _ _) _ _); refine aC rfl (fun h => ?_) (fun h => ?_) <;> (try simp only [hsX, reduceCtorEq] at h))|((with_reducible first|refine aK ?_|refine aR ?_); simp only [nx])|((with_reducible refine aE ?_); simp only [nx, ne_eq, not_false_eq_true, Nat.reduceEqDiff, reduceCtorEq]; try ((repeat ((fail_if_success refine hK _ ?_); clear hK K)); refine hK _ ?_; clear hK K))|((with_reducible first|show List.all _ _ = true|show lendOk _ _ = true); rfl)|omega|((with_reducible first|show ¬ _|show _ → _); intro h; first|contradiction|cases h; done|skip)
  all_goals (try (first|refine fK ?_|refine fM ?_; repeat clear hK))
  refine awp_for (fun s (k : Nat) => s.at [0, 1] [(5, .i k)] s.hp) (fun k => k ≤ l.length ∧ ∀ m, k ≤ m → m < l.length → n < l.getD m 0) (fun k => k) l.length ⟨Nat.le_refl _, fun m h1 h2 => by omega⟩ ?_ ?_
  · simp [-List.getD_eq_getElem?_getD, -List.length_take, Le, leFr, ASt.at, keepFr, updAll, upd_zero, upd_succ]
  rintro k ⟨hk, ha⟩
  simp only [ASt.at, keepFr, updAll, upd_zero, upd_succ, lgA, Nat.reduceEqDiff, Nat.reduceAdd, ↓reduceIte, eq_self]
  have tn : ((k : Int) - 1).toNat = k - 1 := by omega
  have hs1 : (l.take k).length + (l.drop k).length = l.length := by rw [← List.length_append, List.take_append_drop]
  have hs2 : (l.take k ++ [n]).length = (l.take k).length + 1 := by rw [List.length_append]; rfl
  repeat' first | ((with_reducible show aol _ _ _ _ _); first|(refine gF (by rfl) ?_ ?_; focus simp only [go_sem]; done)|(refine gU (by rfl) ?_ ?_; focus simp only [go_sem]; done))|((with_reducible refine hK _ ?_); clear hK K; try simp only [nx])|(with_reducible first|refine aS fun K hK => ?_|refine aB ?_|apply And.intro|exact True.intro)|(((with_reducible show aol _ _ _ _ _); try first|(refine gT (by rfl) ?_ ?_; focus simp only [go_sem]; done)|refine gB (by rfl) (by rfl) (fun h => ?_) (fun h => ?_) <;> (try simp only [hsX, reduceCtorEq] at h)) <;> simp (maxSteps := 2000000) (disch := omega) only [go_sem, ↓reduceIte, Nat.reduceEqDiff, Nat.reduceAdd, Nat.reduceLT, Nat.reduceLeDiff, Nat.reduceSub, tn])|((with_reducible show Awp _ _ (Code.region _ _ _) _ _); first|(refine rK (by repeat constructor) (fun K hK => ?_); simp (maxSteps := 2000000) (disch := omega) only [go_sem, ↓reduceIte, Nat.reduceEqDiff, Nat.reduceAdd, Nat.reduceLT, Nat.reduceLeDiff, Nat.reduceSub, tn])|(refine awp_ordersK [[1, 2, 3, 5, 8, 9, 10, 0, 4, 6, 7, 11, 12], [1, 2, 3, 5, 8, 9, 10, 0, 6, 4, 7, 11, 12], [1, 2, 3, 5, 8, 9, 10, 6, 0, 4, 7, 11, 12]] (by kernel_rfl) (by kernel_rfl) (by repeat constructor) (fun K hK => ?_); simp only [Alls, and_true]; (repeat' apply And.intro) <;> (refine ⟨_, by repeat constructor, ?_⟩; simp (config := { maxSteps := 2000000 }) (disch := omega) only [go_sem, ↓reduceIte, Nat.reduceEqDiff, Nat.reduceAdd, Nat.reduceLT, Nat.reduceLeDiff, Nat.reduceSub, tn])))|((with_reducible show Awp _ _ (Code.cond _ _ _) _ _); refine aC rfl (fun h => ?_) (fun h => ?_) <;> (try simp only [hsX, reduceCtorEq] at h))|((with_reducible first|refine aK ?_|refine aR ?_); simp only [nx])|((with_reducible refine aE ?_); simp only [nx, ne_eq, not_false_eq_true, Nat.reduceEqDiff, reduceCtorEq]; try ((repeat ((fail_if_success refine hK _ ?_); clear hK K)); refine hK _ ?_; clear hK K))|((with_reducible first|show List.all _ _ = true|show lendOk _ _ = true); rfl)|omega|((with_reducible first|show ¬ _|show _ → _); intro h; first|contradiction|cases h; done|skip)
  all_goals (try (first|refine fK ?_|refine fM ?_; repeat clear hK))
  · refine ⟨k - 1, ⟨by omega, fun m h1 h2 => ?_⟩, by omega, ?_⟩
    · by_cases e : m = k - 1
      · subst e; assumption
      · exact ha m (by omega) h2
    · have tk : ((k - 1 : Nat) : Int) = (k : Int) - 1 := by omega
      simp [-List.getD_eq_getElem?_getD, -List.length_take, Le, leFr, ASt.at, keepFr, updAll, upd_zero, upd_succ, tk]
  all_goals first
    | exact finm_1 rfl rfl rfl rfl
    | exact absurd hn (put_no hinc hk ha (.inr ⟨by assumption, by assumption⟩))
    | exact absurd hn (put_no hinc hk ha (.inl (by assumption)))
end Go.Proofs.YthoionlldmfpiaaGreat
