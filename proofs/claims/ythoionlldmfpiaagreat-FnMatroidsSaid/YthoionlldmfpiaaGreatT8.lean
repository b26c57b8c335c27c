import Derived.Test.YthoionlldmfpiaaGreatHs
import Derived.Test.YthoionlldmfpiaaGreatT7
set_option linter.unusedSimpArgs false
set_option linter.unusedVariables false
set_option maxHeartbeats 2000000
namespace Go.Proofs.YthoionlldmfpiaaGreat
open Go Go.Ab
attribute [local irreducible] aol
theorem inc_step {l : List Int} (h : incB l = true) {j : Nat} (hj : j + 1 < l.length) : l.getD j 0 < l.getD (j + 1) 0 := by
  unfold incB at h
  rw [List.all_eq_true] at h
  exact of_decide_eq_true (h j (List.mem_range.2 (by omega)))
theorem inc_lt {l : List Int} (h : incB l = true) {i : Nat} : ∀ {j : Nat}, i < j → j < l.length → l.getD i 0 < l.getD j 0
  | 0, h1, _ => by omega
  | j + 1, h1, h2 => by
    have h3 := inc_step h h2
    by_cases e : i = j
    · subst e; exact h3
    · have := inc_lt h (i := i) (j := j) (by omega) (by omega); omega
def cntLt (l : List Int) (x : Int) : Nat := l.countP fun y => decide (y < x)
theorem cntLt_of {x : Int} : ∀ {l : List Int} {i : Nat}, i ≤ l.length → (∀ m, m < i → l.getD m 0 < x) → (∀ m, i ≤ m → m < l.length → x ≤ l.getD m 0) → cntLt l x = i
  | [], i, h, _, _ => by simp at h; simp [cntLt, h]
  | y :: l, 0, _, _, h2 => by
    have h3 := h2 0 (by omega) (by simp)
    have := cntLt_of (x := x) (l := l) (i := 0) (by omega) (by omega) (fun m _ h => by have := h2 (m + 1) (by omega) (by simpa using h); simpa using this)
    unfold cntLt at this ⊢
    rw [List.countP_cons, this]
    simp at h3 ⊢; omega
  | y :: l, i + 1, h, h1, h2 => by
    have h3 := h1 0 (by omega)
    have := cntLt_of (x := x) (l := l) (i := i) (by simpa using h) (fun m hm => by have := h1 (m + 1) (by omega); simpa using this) (fun m hm h => by have := h2 (m + 1) (by omega) (by simpa using h); simpa using this)
    unfold cntLt at this ⊢
    rw [List.countP_cons, this]
    simp at h3 ⊢; omega
theorem mem_at {l : List Int} {x : Int} {i : Nat} (h1 : ∀ m, m < i → l.getD m 0 < x) (h2 : ∀ m, i ≤ m → m < l.length → x ≤ l.getD m 0) (hi : incB l = true) : x ∈ l ↔ i < l.length ∧ l.getD i 0 = x := by
  constructor
  · intro h
    obtain ⟨m, hm, e⟩ := List.getElem_of_mem h
    have e' : l.getD m 0 = x := by rw [List.getD_eq_getElem?_getD, List.getElem?_eq_getElem hm]; exact e
    by_cases h3 : m < i
    · have := h1 m h3; omega
    · by_cases h4 : m = i
      · subst h4; exact ⟨hm, e'⟩
      · have := inc_lt hi (i := i) (j := m) (by omega) hm
        have := h2 i (by omega) (by omega)
        omega
  · rintro ⟨h, e⟩
    rw [List.getD_eq_getElem?_getD, List.getElem?_eq_getElem h] at e
    rw [← e]; exact List.getElem_mem _
def tNaN : Tab
  | [.i _] => some (True, .b false, [])
  | _ => none
theorem nanS_ok : Fits Tryz.prog 111 tNaN := by
  refine ⟨callable_of Tryz.func111 (by kernel_rfl) rfl, ?_⟩
  intro args p out Ho h hp
  unfold tNaN at h
  split at h <;> cases h
  rename_i x
  refine ⟨acall_by (env_ok (env := []) (by simp)) Tryz.func111 rfl rfl rfl rfl rfl ?_, rfl, rfl⟩
  intro hlen c hc hX
  simp only [lensOk, AV.lenOk, true_and, and_true] at hlen
  simp only [Tryz.ntmps111, Tryz.results111, lsA, List.replicate, Nat.reduceAdd, Nat.reduceSub]
  repeat' first | ((with_reducible show aol _ _ _ _ _); first|(refine gF (by rfl) ?_ ?_; focus simp only [go_sem]; done)|(refine gU (by rfl) ?_ ?_; focus simp only [go_sem]; done))|((with_reducible refine hK _ ?_); clear hK K; try simp only [nx])|(with_reducible first|refine aS fun K hK => ?_|refine aB ?_|apply And.intro|exact True.intro)|((first|((with_reducible show aol _ _ _ _ _); try first|(refine gT (by rfl) ?_ ?_; focus simp only [go_sem]; done)|refine gB (by rfl) (by rfl) (fun h => ?_) (fun h => ?_) <;> (try simp only [hsX, reduceCtorEq] at h))|((with_reducible show Awp _ _ (Code.region _ _ _) _ _); first|refine rK (by repeat constructor) (fun K hK => ?_)|(refine dK (by kernel_rfl) (by repeat constructor) (fun K hK => ?_)))) <;> simp (maxSteps := 2000000) (disch := omega) only [go_sem, ↓reduceIte, Nat.reduceEqDiff, Nat.reduceAdd, Nat.reduceLT, Nat.reduceLeDiff, Nat.reduceSub])|((with_reducible show Awp _ _ (Code.cond _ _ _) _ _); refine aC rfl (fun h => ?_) (fun h => ?_) <;> (try simp only [hsX, reduceCtorEq] at h))|((with_reducible first|refine aK ?_|refine aR ?_); simp only [nx])|((with_reducible refine aE ?_); simp only [nx, ne_eq, not_false_eq_true, Nat.reduceEqDiff, reduceCtorEq]; try ((repeat ((fail_if_success refine hK _ ?_); clear hK K)); refine hK _ ?_; clear hK K))|((with_reducible first|show List.all _ _ = true|show lendOk _ _ = true); rfl)|omega|((with_reducible first|show ¬ _|show _ → _); intro h; first|contradiction|cases h; done|skip)
  all_goals (try (first|refine fK ?_|refine fM ?_; repeat clear hK))
  refine fin_tmp rfl ?_; simp only [nth_zero, nth_succ]
theorem nanC_ok : Fits Tryz.prog 120 tNaN := by
  refine ⟨callable_of Tryz.func120 (by kernel_rfl) rfl, ?_⟩
  intro args p out Ho h hp
  unfold tNaN at h
  split at h <;> cases h
  rename_i x
  refine ⟨acall_by (env_ok (env := []) (by simp)) Tryz.func120 rfl rfl rfl rfl rfl ?_, rfl, rfl⟩
  intro hlen c hc hX
  simp only [lensOk, AV.lenOk, true_and, and_true] at hlen
  simp only [Tryz.ntmps120, Tryz.results120, lsA, List.replicate, Nat.reduceAdd, Nat.reduceSub]
  repeat' first | ((with_reducible show aol _ _ _ _ _); first|(refine gF (by rfl) ?_ ?_; focus simp only [go_sem]; done)|(refine gU (by rfl) ?_ ?_; focus simp only [go_sem]; done))|((with_reducible refine hK _ ?_); clear hK K; try simp only [nx])|(with_reducible first|refine aS fun K hK => ?_|refine aB ?_|apply And.intro|exact True.intro)|((first|((with_reducible show aol _ _ _ _ _); try first|(refine gT (by rfl) ?_ ?_; focus simp only [go_sem]; done)|refine gB (by rfl) (by rfl) (fun h => ?_) (fun h => ?_) <;> (try simp only [hsX, reduceCtorEq] at h))|((with_reducible show Awp _ _ (Code.region _ _ _) _ _); first|refine rK (by repeat constructor) (fun K hK => ?_)|(refine dK (by kernel_rfl) (by repeat constructor) (fun K hK => ?_)))) <;> simp (maxSteps := 2000000) (disch := omega) only [go_sem, ↓reduceIte, Nat.reduceEqDiff, Nat.reduceAdd, Nat.reduceLT, Nat.reduceLeDiff, Nat.reduceSub])|((with_reducible show Awp _ _ (Code.cond _ _ _) _ _); refine aC rfl (fun h => ?_) (fun h => ?_) <;> (try simp only [hsX, reduceCtorEq] at h))|((with_reducible first|refine aK ?_|refine aR ?_); simp only [nx])|((with_reducible refine aE ?_); simp only [nx, ne_eq, not_false_eq_true, Nat.reduceEqDiff, reduceCtorEq]; try ((repeat ((fail_if_success refine hK _ ?_); clear hK K)); refine hK _ ?_; clear hK K))|((with_reducible first|show List.all _ _ = true|show lendOk _ _ = true); rfl)|omega|((with_reducible first|show ¬ _|show _ → _); intro h; first|contradiction|cases h; done|skip)
  all_goals (try (first|refine fK ?_|refine fM ?_; repeat clear hK))
  refine fin_tmp rfl ?_; simp only [nth_zero, nth_succ]
def tLess : Tab
  | [.i x, .i y] => some (True, .b (decide (x < y)), [])
  | _ => none
theorem less_ok : Fits Tryz.prog 110 tLess := by
  refine ⟨callable_of Tryz.func110 (by kernel_rfl) rfl, ?_⟩
  intro args p out Ho h hp
  unfold tLess at h
  split at h <;> cases h
  rename_i x y
  refine ⟨acall_by (env_ok (env := [(120, tNaN)]) (by simp only [fmA, and_true]; exact nanC_ok)) Tryz.func110 rfl rfl rfl rfl rfl ?_, rfl, rfl⟩
  intro hlen c hc hX
  simp only [lensOk, AV.lenOk, true_and, and_true] at hlen
  simp only [Tryz.ntmps110, Tryz.results110, lsA, List.replicate, Nat.reduceAdd, Nat.reduceSub]
  repeat' first | ((with_reducible show aol _ _ _ _ _); first|(refine gF (by rfl) ?_ ?_; focus simp only [go_sem]; done)|(refine gU (by rfl) ?_ ?_; focus simp only [go_sem]; done))|((with_reducible refine hK _ ?_); clear hK K; try simp only [nx])|(with_reducible first|refine aS fun K hK => ?_|refine aB ?_|apply And.intro|exact True.intro)|((first|((with_reducible show aol _ _ _ _ _); try first|(refine gT (by rfl) ?_ ?_; focus simp only [go_sem]; done)|refine gB (by rfl) (by rfl) (fun h => ?_) (fun h => ?_) <;> (try simp only [hsX, reduceCtorEq] at h))|((with_reducible show Awp _ _ (Code.region _ _ _) _ _); first|refine rK (by repeat constructor) (fun K hK => ?_)|(refine dK (by kernel_rfl) (by repeat constructor) (fun K hK => ?_)))) <;> simp (maxSteps := 2000000) (disch := omega) only [go_sem, ↓reduceIte, Nat.reduceEqDiff, Nat.reduceAdd, Nat.reduceLT, Nat.reduceLeDiff, Nat.reduceSub, tNaN])|((with_reducible show Awp _ _ (Code.cond _ _ _) _ _); refine aC rfl (fun h => ?_) (fun h => ?_) <;> (try simp only [hsX, reduceCtorEq] at h))|((with_reducible first|refine aK ?_|refine aR ?_); simp only [nx])|((with_reducible refine aE ?_); simp only [nx, ne_eq, not_false_eq_true, Nat.reduceEqDiff, reduceCtorEq]; try ((repeat ((fail_if_success refine hK _ ?_); clear hK K)); refine hK _ ?_; clear hK K))|((with_reducible first|show List.all _ _ = true|show lendOk _ _ = true); rfl)|omega|((with_reducible first|show ¬ _|show _ → _); intro h; first|contradiction|cases h; done|skip)
  all_goals (try (first|refine fK ?_|refine fM ?_; repeat clear hK))
  refine fin_tmp rfl ?_; rfl
def tBs : Tab
  | [.sl .i64 l, .i x] => some (incB l = true, .tu [.i (cntLt l x), .b (decide (x ∈ l))], [])
  | _ => none
theorem u64_w64 {n : Int} (h0 : 0 ≤ n) (h1 : n < 18446744073709551616) : IntKind.u64.wrap (RowKit.wrap64 n) = n := by
  unfold RowKit.wrap64 IntKind.wrap IntKind.bits IntKind.signed
  simp
  omega
theorem mid_eq {i j n : Nat} (h1 : i < j) (h2 : j ≤ n) (hn : n ≤ 9223372036854775807) : RowKit.wrap64 (shrK .u64 (IntKind.u64.wrap (RowKit.wrap64 ((i : Int) + j))) 1) = (((i + j) / 2 : Nat) : Int) := by
  rw [u64_w64 (by omega) (by omega)]
  have : shrK .u64 ((i : Int) + j) 1 = (((i + j) / 2 : Nat) : Int) := by
    show ((i : Int) + j).fdiv (2 ^ 1) = _
    rw [Int.fdiv_eq_ediv_of_nonneg _ (by decide)]; omega
  rw [this]; exact wrap64_id (by omega) (by omega)
theorem bs_ok : Fits Tryz.prog 86 tBs := by
  refine ⟨callable_of Tryz.func86 (by kernel_rfl) rfl, ?_⟩
  intro args p out Ho h hp
  unfold tBs at h
  split at h <;> cases h
  rename_i l x
  refine ⟨acall_by (env_ok (env := [(110, tLess), (111, tNaN)]) (by simp only [fmA, and_true]; exact ⟨less_ok, nanS_ok⟩)) Tryz.func86 rfl rfl rfl rfl rfl ?_, rfl, rfl⟩
  intro hlen c hc hX
  simp only [lensOk, AV.lenOk, true_and, and_true] at hlen
  simp only [Tryz.ntmps86, Tryz.results86, lsA, List.replicate, Nat.reduceAdd, Nat.reduceSub]
  repeat' first | ((with_reducible show aol _ _ _ _ _); first|(refine gF (by rfl) ?_ ?_; focus simp only [go_sem]; done)|(refine gU (by rfl) ?_ ?_; focus simp only [go_sem]; done))|((with_reducible refine hK _ ?_); clear hK K; try simp only [nx])|(with_reducible first|refine aS fun K hK => ?_|refine aB ?_|apply And.intro|exact True.intro)|((first|((with_reducible show aol _ _ _ _ _); try first|(refine gT (by rfl) ?_ ?_; focus simp only [go_sem]; done)|refine gB (by rfl) (by rfl) (fun h => ?_) (fun h => ?_) <;> (try simp only [hsX, reduceCtorEq] at h))|((with_reducible show Awp _ _ (Code.region _ _ _) _ _); first|refine rK (by repeat constructor) (fun K hK => ?_)|(refine dK (by kernel_rfl) (by repeat constructor) (fun K hK => ?_)))) <;> simp (maxSteps := 2000000) (disch := omega) only [go_sem, ↓reduceIte, Nat.reduceEqDiff, Nat.reduceAdd, Nat.reduceLT, Nat.reduceLeDiff, Nat.reduceSub, tLess, tNaN])|((with_reducible show Awp _ _ (Code.cond _ _ _) _ _); refine aC rfl (fun h => ?_) (fun h => ?_) <;> (try simp only [hsX, reduceCtorEq] at h))|((with_reducible first|refine aK ?_|refine aR ?_); simp only [nx])|((with_reducible refine aE ?_); simp only [nx, ne_eq, not_false_eq_true, Nat.reduceEqDiff, reduceCtorEq]; try ((repeat ((fail_if_success refine hK _ ?_); clear hK K)); refine hK _ ?_; clear hK K))|((with_reducible first|show List.all _ _ = true|show lendOk _ _ = true); rfl)|omega|((with_reducible first|show ¬ _|show _ → _); intro h; first|contradiction|cases h; done|skip)
  all_goals (try (first|refine fK ?_|refine fM ?_; repeat clear hK))
  refine awp_for (fun s (p : Nat × Nat) => s.at [0, 1, 6] [(7, .i p.1), (8, .i p.2)] s.hp) (fun p => p.1 ≤ p.2 ∧ p.2 ≤ l.length ∧ (∀ m, m < p.1 → l.getD m 0 < x) ∧ (∀ m, p.2 ≤ m → m < l.length → x ≤ l.getD m 0)) (fun p => p.2 - p.1) (0, l.length) ⟨by simp, by simp, by simp, fun m h1 h2 => by simp at h1; omega⟩ ?_ ?_
  · simp [-List.getD_eq_getElem?_getD, -List.length_take, Le, leFr, ASt.at, keepFr, updAll, upd_zero, upd_succ]
  rintro ⟨i, j⟩ ⟨h1, h2, h3, h4⟩
  simp only at h1 h2 h3 h4
  simp only [ASt.at, keepFr, updAll, upd_zero, upd_succ, lgA, Nat.reduceEqDiff, Nat.reduceAdd, ↓reduceIte, eq_self]
  have hm := fun h => mid_eq (i := i) (j := j) (n := l.length) h h2 hlen
  repeat' first | ((with_reducible show aol _ _ _ _ _); first|(refine gF (by rfl) ?_ ?_; focus simp only [go_sem]; done)|(refine gU (by rfl) ?_ ?_; focus simp only [go_sem]; done))|((with_reducible refine hK _ ?_); clear hK K; try simp only [nx])|(with_reducible first|refine aS fun K hK => ?_|refine aB ?_|apply And.intro|exact True.intro)|((first|((with_reducible show aol _ _ _ _ _); try first|(refine gT (by rfl) ?_ ?_; focus simp only [go_sem]; done)|refine gB (by rfl) (by rfl) (fun h => ?_) (fun h => ?_) <;> (try simp only [hsX, reduceCtorEq] at h))|((with_reducible show Awp _ _ (Code.region _ _ _) _ _); first|refine rK (by repeat constructor) (fun K hK => ?_)|(refine dK (by kernel_rfl) (by repeat constructor) (fun K hK => ?_)))) <;> simp (maxSteps := 2000000) (disch := omega) only [go_sem, ↓reduceIte, Nat.reduceEqDiff, Nat.reduceAdd, Nat.reduceLT, Nat.reduceLeDiff, Nat.reduceSub, tLess, tNaN, hm])|((with_reducible show Awp _ _ (Code.cond _ _ _) _ _); refine aC rfl (fun h => ?_) (fun h => ?_) <;> (try simp only [hsX, reduceCtorEq] at h))|((with_reducible first|refine aK ?_|refine aR ?_); simp only [nx])|((with_reducible refine aE ?_); simp only [nx, ne_eq, not_false_eq_true, Nat.reduceEqDiff, reduceCtorEq]; try ((repeat ((fail_if_success refine hK _ ?_); clear hK K)); refine hK _ ?_; clear hK K))|((with_reducible first|show List.all _ _ = true|show lendOk _ _ = true); rfl)|omega|((with_reducible first|show ¬ _|show _ → _); intro h; first|contradiction|cases h; done|skip)
  all_goals (try (first|refine fK ?_|refine fM ?_; repeat clear hK))
  · refine ⟨((i + j) / 2 + 1, j), ⟨by simp only; omega, h2, fun m hm' => ?_, h4⟩, by simp only; omega, ?_⟩
    · simp only at hm'
      by_cases e : m = (i + j) / 2
      · subst e; exact h
      · have := inc_lt hp (i := m) (j := (i + j) / 2) (by omega) (by omega); omega
    · simp [-List.getD_eq_getElem?_getD, -List.length_take, Le, leFr, ASt.at, keepFr, updAll, upd_zero, upd_succ]
  · refine ⟨(i, (i + j) / 2), ⟨by simp only; omega, by simp only; omega, h3, fun m hm' hm2 => ?_⟩, by simp only; omega, ?_⟩
    · simp only at hm'
      by_cases e : m = (i + j) / 2
      · subst e; exact h
      · have := inc_lt hp (i := (i + j) / 2) (j := m) (by omega) (by omega); omega
    · simp [-List.getD_eq_getElem?_getD, -List.length_take, Le, leFr, ASt.at, keepFr, updAll, upd_zero, upd_succ]
  all_goals (obtain rfl : i = j := by omega)
  all_goals (have hc' := cntLt_of (x := x) h2 h3 h4; have hm' := mem_at h3 h4 hp)
  · refine fin_tmp2 rfl ?_ ?_ <;> simp only [nth_zero, nth_succ, hc']
    rw [decide_eq_false (fun e => by rw [hm'] at e; exact absurd e.2 (by assumption))]
  · refine fin_tmp2 rfl ?_ ?_ <;> simp only [nth_zero, nth_succ, hc']
    rw [decide_eq_true (hm'.2 ⟨by omega, by assumption⟩)]
  · refine fin_tmp2 rfl ?_ ?_ <;> simp only [nth_zero, nth_succ, hc']
    rw [decide_eq_false (fun e => by rw [hm'] at e; omega)]
def tHasSet : Tab
  | [.ag [.i g, .sl .i64 l], .i x] => some (incB l = true, .b (decide (x ∈ l)), [])
  | _ => none
theorem hasSet_ok : Fits Tryz.prog 50 tHasSet := by
  refine ⟨callable_of Tryz.func50 (by kernel_rfl) rfl, ?_⟩
  intro args p out Ho h hp
  unfold tHasSet at h
  split at h <;> cases h
  rename_i g l x
  refine ⟨acall_by (env_ok (env := [(86, tBs)]) (by simp only [fmA, and_true]; exact bs_ok)) Tryz.func50 rfl rfl rfl rfl rfl ?_, rfl, rfl⟩
  intro hlen c hc hX
  simp only [lensOk, AV.lenOk, true_and, and_true] at hlen
  simp only [Tryz.ntmps50, Tryz.results50, lsA, List.replicate, Nat.reduceAdd, Nat.reduceSub]
  repeat' first | ((with_reducible show aol _ _ _ _ _); first|(refine gF (by rfl) ?_ ?_; focus simp only [go_sem]; done)|(refine gU (by rfl) ?_ ?_; focus simp only [go_sem]; done))|((with_reducible refine hK _ ?_); clear hK K; try simp only [nx])|(with_reducible first|refine aS fun K hK => ?_|refine aB ?_|apply And.intro|exact True.intro)|((first|((with_reducible show aol _ _ _ _ _); try first|(refine gT (by rfl) ?_ ?_; focus simp only [go_sem]; done)|refine gB (by rfl) (by rfl) (fun h => ?_) (fun h => ?_) <;> (try simp only [hsX, reduceCtorEq] at h))|((with_reducible show Awp _ _ (Code.region _ _ _) _ _); first|refine rK (by repeat constructor) (fun K hK => ?_)|(refine dK (by kernel_rfl) (by repeat constructor) (fun K hK => ?_)))) <;> simp (maxSteps := 2000000) (disch := omega) only [go_sem, ↓reduceIte, Nat.reduceEqDiff, Nat.reduceAdd, Nat.reduceLT, Nat.reduceLeDiff, Nat.reduceSub, tBs, hp])|((with_reducible show Awp _ _ (Code.cond _ _ _) _ _); refine aC rfl (fun h => ?_) (fun h => ?_) <;> (try simp only [hsX, reduceCtorEq] at h))|((with_reducible first|refine aK ?_|refine aR ?_); simp only [nx])|((with_reducible refine aE ?_); simp only [nx, ne_eq, not_false_eq_true, Nat.reduceEqDiff, reduceCtorEq]; try ((repeat ((fail_if_success refine hK _ ?_); clear hK K)); refine hK _ ?_; clear hK K))|((with_reducible first|show List.all _ _ = true|show lendOk _ _ = true); rfl)|omega|((with_reducible first|show ¬ _|show _ → _); intro h; first|contradiction|cases h; done|skip)
  all_goals (try (first|refine fK ?_|refine fM ?_; repeat clear hK))
  refine fin_tmp rfl ?_; rfl
def tHas : Tab
  | [.sl .i64 l, .i x] => some (True, .b (decide (x ∈ l)), [])
  | _ => none
theorem mem_take_no {l : List Int} {x : Int} {k : Nat} (h : ∀ m, m < k → l.getD m 0 ≠ x) (hk : l.length ≤ k) : ¬ x ∈ l := by
  intro hx
  obtain ⟨m, hm, e⟩ := List.getElem_of_mem hx
  refine h m (by omega) ?_
  rw [List.getD_eq_getElem?_getD, List.getElem?_eq_getElem hm]; exact e
theorem mem_getD {l : List Int} {x : Int} {k : Nat} (hk : k < l.length) (h : l.getD k 0 = x) : x ∈ l := by
  rw [List.getD_eq_getElem?_getD, List.getElem?_eq_getElem hk] at h
  rw [← h]; exact List.getElem_mem _
theorem specHas_ok : Fits Tryz.prog 67 tHas := by
  refine ⟨callable_of Tryz.func67 (by kernel_rfl) rfl, ?_⟩
  intro args p out Ho h hp
  unfold tHas at h
  split at h <;> cases h
  rename_i l x
  refine ⟨acall_by (env_ok (env := []) (by simp)) Tryz.func67 rfl rfl rfl rfl rfl ?_, rfl, rfl⟩
  intro hlen c hc hX
  simp only [lensOk, AV.lenOk, true_and, and_true] at hlen
  simp only [Tryz.ntmps67, Tryz.results67, lsA, List.replicate, Nat.reduceAdd, Nat.reduceSub]
  repeat' first | ((with_reducible show aol _ _ _ _ _); first|(refine gF (by rfl) ?_ ?_; focus simp only [go_sem]; done)|(refine gU (by rfl) ?_ ?_; focus simp only [go_sem]; done))|((with_reducible refine hK _ ?_); clear hK K; try simp only [nx])|(with_reducible first|refine aS fun K hK => ?_|refine aB ?_|apply And.intro|exact True.intro)|((first|((with_reducible show aol _ _ _ _ _); try first|(refine gT (by rfl) ?_ ?_; focus simp only [go_sem]; done)|refine gB (by rfl) (by rfl) (fun h => ?_) (fun h => ?_) <;> (try simp only [hsX, reduceCtorEq] at h))|((with_reducible show Awp _ _ (Code.region _ _ _) _ _); first|refine rK (by repeat constructor) (fun K hK => ?_)|(refine dK (by kernel_rfl) (by repeat constructor) (fun K hK => ?_)))) <;> simp (maxSteps := 2000000) (disch := omega) only [go_sem, ↓reduceIte, Nat.reduceEqDiff, Nat.reduceAdd, Nat.reduceLT, Nat.reduceLeDiff, Nat.reduceSub])|((with_reducible show Awp _ _ (Code.cond _ _ _) _ _); refine aC rfl (fun h => ?_) (fun h => ?_) <;> (try simp only [hsX, reduceCtorEq] at h))|((with_reducible first|refine aK ?_|refine aR ?_); simp only [nx])|((with_reducible refine aE ?_); simp only [nx, ne_eq, not_false_eq_true, Nat.reduceEqDiff, reduceCtorEq]; try ((repeat ((fail_if_success refine hK _ ?_); clear hK K)); refine hK _ ?_; clear hK K))|((with_reducible first|show List.all _ _ = true|show lendOk _ _ = true); rfl)|omega|((with_reducible first|show ¬ _|show _ → _); intro h; first|contradiction|cases h; done|skip)
  all_goals (try (first|refine fK ?_|refine fM ?_; repeat clear hK))
  refine awp_for (fun s (k : Nat) => s.at [0, 1] [(5, .i k)] s.hp) (fun k => k ≤ l.length ∧ ∀ m, m < k → l.getD m 0 ≠ x) (fun k => l.length - k) 0 ⟨by omega, by simp⟩ ?_ ?_
  · simp [-List.getD_eq_getElem?_getD, -List.length_take, Le, leFr, ASt.at, keepFr, updAll, upd_zero, upd_succ]
  rintro k ⟨hk, ha⟩
  simp only [ASt.at, keepFr, updAll, upd_zero, upd_succ, lgA, Nat.reduceEqDiff, Nat.reduceAdd, ↓reduceIte, eq_self]
  repeat' first | ((with_reducible show aol _ _ _ _ _); first|(refine gF (by rfl) ?_ ?_; focus simp only [go_sem]; done)|(refine gU (by rfl) ?_ ?_; focus simp only [go_sem]; done))|((with_reducible refine hK _ ?_); clear hK K; try simp only [nx])|(with_reducible first|refine aS fun K hK => ?_|refine aB ?_|apply And.intro|exact True.intro)|((first|((with_reducible show aol _ _ _ _ _); try first|(refine gT (by rfl) ?_ ?_; focus simp only [go_sem]; done)|refine gB (by rfl) (by rfl) (fun h => ?_) (fun h => ?_) <;> (try simp only [hsX, reduceCtorEq] at h))|((with_reducible show Awp _ _ (Code.region _ _ _) _ _); first|refine rK (by repeat constructor) (fun K hK => ?_)|(refine dK (by kernel_rfl) (by repeat constructor) (fun K hK => ?_)))) <;> simp (maxSteps := 2000000) (disch := omega) only [go_sem, ↓reduceIte, Nat.reduceEqDiff, Nat.reduceAdd, Nat.reduceLT, Nat.reduceLeDiff, Nat.reduceSub])|((with_reducible show Awp _ _ (Code.cond _ _ _) _ _); refine aC rfl (fun h => ?_) (fun h => ?_) <;> (try simp only [hsX, reduceCtorEq] at h))|((with_reducible first|refine aK ?_|refine aR ?_); simp only [nx])|((with_reducible refine aE ?_); simp only [nx, ne_eq, not_false_eq_true, Nat.reduceEqDiff, reduceCtorEq]; try ((repeat ((fail_if_success refine hK _ ?_); clear hK K)); refine hK _ ?_; clear hK K))|((with_reducible first|show List.all _ _ = true|show lendOk _ _ = true); rfl)|omega|((with_reducible first|show ¬ _|show _ → _); intro h; first|contradiction|cases h; done|skip)
  all_goals (try (first|refine fK ?_|refine fM ?_; repeat clear hK))
  · refine fin_tmp rfl ?_; simp only [nth_zero, nth_succ]; rw [decide_eq_true (mem_getD (by omega) h)]
  · refine ⟨k + 1, ⟨by omega, fun m hm => ?_⟩, by omega, ?_⟩
    · by_cases e : m = k
      · subst e; exact h
      · exact ha m (by omega)
    · simp [-List.getD_eq_getElem?_getD, -List.length_take, Le, leFr, ASt.at, keepFr, updAll, upd_zero, upd_succ]
  · refine fin_tmp rfl ?_; simp only [nth_zero, nth_succ]; rw [decide_eq_false (mem_take_no ha (by omega))]
end Go.Proofs.YthoionlldmfpiaaGreat
