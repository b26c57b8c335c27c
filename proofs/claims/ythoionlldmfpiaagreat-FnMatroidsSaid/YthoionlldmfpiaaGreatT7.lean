import Derived.Test.YthoionlldmfpiaaGreatHs
import Derived.Test.YthoionlldmfpiaaGreatT4
set_option linter.unusedSimpArgs false
set_option linter.unusedVariables false
set_option maxHeartbeats 2000000
namespace Go.Proofs.YthoionlldmfpiaaGreat
open Go Go.Ab
attribute [local irreducible] aol
def incB (l : List Int) : Bool := (List.range (l.length - 1)).all fun k => decide (l.getD k 0 < l.getD (k + 1) 0)
theorem inc_true {l : List Int} (h : ∀ j, j + 1 < l.length → l.getD j 0 < l.getD (j + 1) 0) : incB l = true := by
  unfold incB
  rw [List.all_eq_true]
  intro k hk
  rw [List.mem_range] at hk
  exact decide_eq_true (h k (by omega))
theorem inc_false {l : List Int} {j : Nat} (hj : j + 1 < l.length) (h : l.getD (j + 1) 0 ≤ l.getD j 0) : incB l = false := by
  unfold incB
  rw [List.all_eq_false]
  exact ⟨j, List.mem_range.2 (by omega), by simp only [decide_eq_true_eq]; omega⟩
def famV (g : Int) (l : List Int) : Bool := inR g 0 6 && (l.all (isSet g) && incB l)
def tIsF : Tab
  | [.ag [.i g, .sl .i64 l]] => some (True, .b (famV g l), [])
  | _ => none
theorem famV_no {g : Int} {l : List Int} (h : ¬ (0 ≤ g ∧ g ≤ 6)) : famV g l = false := by
  unfold famV; rw [← inR_not] at h; rw [h]; rfl
theorem famV_not {g : Int} {l : List Int} (h : l.all (isSet g) = false) : famV g l = false := by
  unfold famV; rw [h]; cases inR g 0 6 <;> rfl
theorem famV_dec {g : Int} {l : List Int} (h : incB l = false) : famV g l = false := by
  unfold famV; rw [h]; cases inR g 0 6 <;> cases l.all (isSet g) <;> rfl
theorem famV_yes {g : Int} {l : List Int} (h : 0 ≤ g ∧ g ≤ 6) (h1 : l.all (isSet g) = true) (h2 : incB l = true) : famV g l = true := by
  unfold famV; rw [← inR_iff] at h; rw [h1, h2, h]; rfl
theorem implIsF_ok : Fits Tryz.prog 48 tIsF := by
  refine ⟨callable_of Tryz.func48 (by kernel_rfl) rfl, ?_⟩
  intro args p out Ho h hp
  unfold tIsF at h
  split at h <;> cases h
  rename_i g l
  refine ⟨acall_by (env_ok (env := [(85, tAreSets)]) (by simp only [fmA, and_true]; exact areSets_ok)) Tryz.func48 rfl rfl rfl rfl rfl ?_, rfl, rfl⟩
  intro hlen c hc hX
  simp only [lensOk, AV.lenOk, true_and, and_true] at hlen
  simp only [Tryz.ntmps48, Tryz.results48, lsA, List.replicate, Nat.reduceAdd, Nat.reduceSub]
  repeat' first | ((with_reducible show aol _ _ _ _ _); first|(refine gF (by rfl) ?_ ?_; focus simp only [go_sem]; done)|(refine gU (by rfl) ?_ ?_; focus simp only [go_sem]; done))|((with_reducible refine hK _ ?_); clear hK K; try simp only [nx])|(with_reducible first|refine aS fun K hK => ?_|refine aB ?_|apply And.intro|exact True.intro)|((first|((with_reducible show aol _ _ _ _ _); try first|(refine gT (by rfl) ?_ ?_; focus simp only [go_sem]; done)|refine gB (by rfl) (by rfl) (fun h => ?_) (fun h => ?_) <;> (try simp only [hsX, reduceCtorEq] at h))|((with_reducible show Awp _ _ (Code.region _ _ _) _ _); first|refine rK (by repeat constructor) (fun K hK => ?_)|(refine dK (by kernel_rfl) (by repeat constructor) (fun K hK => ?_)))) <;> simp (maxSteps := 2000000) (disch := omega) only [go_sem, ↓reduceIte, Nat.reduceEqDiff, Nat.reduceAdd, Nat.reduceLT, Nat.reduceLeDiff, Nat.reduceSub, tAreSets])|((with_reducible show Awp _ _ (Code.cond _ _ _) _ _); refine aC rfl (fun h => ?_) (fun h => ?_) <;> (try simp only [hsX, reduceCtorEq] at h))|((with_reducible first|refine aK ?_|refine aR ?_); simp only [nx])|((with_reducible refine aE ?_); simp only [nx, ne_eq, not_false_eq_true, Nat.reduceEqDiff, reduceCtorEq]; try ((repeat ((fail_if_success refine hK _ ?_); clear hK K)); refine hK _ ?_; clear hK K))|((with_reducible first|show List.all _ _ = true|show lendOk _ _ = true); rfl)|omega|((with_reducible first|show ¬ _|show _ → _); intro h; first|contradiction|cases h; done|skip)
  all_goals (try (first|refine fK ?_|refine fM ?_; repeat clear hK))
  · refine fin_tmp rfl ?_; simp only [nth_zero, nth_succ]
    rcases h with h | h
    · rw [famV_no h]
    · rw [famV_not h]
  have hg := h
  refine awp_for (fun s (k : Nat) => s.at [1] [(3, .i (k + 1 : Nat))] s.hp) (fun k => k ≤ l.length ∧ ∀ j, j + 1 < k + 1 → j + 1 < l.length → l.getD j 0 < l.getD (j + 1) 0) (fun k => l.length - k) 0 ⟨by omega, by omega⟩ ?_ ?_
  · simp [-List.getD_eq_getElem?_getD, -List.length_take, Le, leFr, ASt.at, keepFr, updAll, upd_zero, upd_succ]
  rintro k ⟨hk, hi⟩
  simp only [ASt.at, keepFr, updAll, upd_zero, upd_succ, lgA, Nat.reduceEqDiff, Nat.reduceAdd, ↓reduceIte, eq_self]
  have tn : ((k + 1 : Nat) : Int) - 1 = k := by omega
  repeat' first | ((with_reducible show aol _ _ _ _ _); first|(refine gF (by rfl) ?_ ?_; focus simp only [go_sem]; done)|(refine gU (by rfl) ?_ ?_; focus simp only [go_sem]; done))|((with_reducible refine hK _ ?_); clear hK K; try simp only [nx])|(with_reducible first|refine aS fun K hK => ?_|refine aB ?_|apply And.intro|exact True.intro)|((first|((with_reducible show aol _ _ _ _ _); try first|(refine gT (by rfl) ?_ ?_; focus simp only [go_sem]; done)|refine gB (by rfl) (by rfl) (fun h => ?_) (fun h => ?_) <;> (try simp only [hsX, reduceCtorEq] at h))|((with_reducible show Awp _ _ (Code.region _ _ _) _ _); first|refine rK (by repeat constructor) (fun K hK => ?_)|(refine dK (by kernel_rfl) (by repeat constructor) (fun K hK => ?_)))) <;> simp (maxSteps := 2000000) (disch := omega) only [go_sem, ↓reduceIte, Nat.reduceEqDiff, Nat.reduceAdd, Nat.reduceLT, Nat.reduceLeDiff, Nat.reduceSub, tAreSets, tn])|((with_reducible show Awp _ _ (Code.cond _ _ _) _ _); refine aC rfl (fun h => ?_) (fun h => ?_) <;> (try simp only [hsX, reduceCtorEq] at h))|((with_reducible first|refine aK ?_|refine aR ?_); simp only [nx])|((with_reducible refine aE ?_); simp only [nx, ne_eq, not_false_eq_true, Nat.reduceEqDiff, reduceCtorEq]; try ((repeat ((fail_if_success refine hK _ ?_); clear hK K)); refine hK _ ?_; clear hK K))|((with_reducible first|show List.all _ _ = true|show lendOk _ _ = true); rfl)|omega|((with_reducible first|show ¬ _|show _ → _); intro h; first|contradiction|cases h; done|skip)
  all_goals (try (first|refine fK ?_|refine fM ?_; repeat clear hK))
  · refine fin_tmp rfl ?_; simp only [nth_zero, nth_succ]; rw [famV_dec (inc_false (by omega) h)]
  · refine ⟨k + 1, ⟨by omega, fun j h1 h2 => ?_⟩, by omega, ?_⟩
    · by_cases e : j = k
      · subst e; exact h
      · exact hi j (by omega) h2
    · simp [-List.getD_eq_getElem?_getD, -List.length_take, Le, leFr, ASt.at, keepFr, updAll, upd_zero, upd_succ]
  · refine fin_tmp rfl ?_; simp only [nth_zero, nth_succ]; rw [famV_yes hg.1 hg.2 (inc_true fun j h2 => hi j (by omega) h2)]
theorem specIsF_ok : Fits Tryz.prog 66 tIsF := by
  refine ⟨callable_of Tryz.func66 (by kernel_rfl) rfl, ?_⟩
  intro args p out Ho h hp
  unfold tIsF at h
  split at h <;> cases h
  rename_i g l
  refine ⟨acall_by (env_ok (env := [(55, tWithin), (56, tFull)]) (by simp only [fmA, and_true]; exact ⟨specIn_ok, full_ok⟩)) Tryz.func66 rfl rfl rfl rfl rfl ?_, rfl, rfl⟩
  intro hlen c hc hX
  simp only [lensOk, AV.lenOk, true_and, and_true] at hlen
  simp only [Tryz.ntmps66, Tryz.results66, lsA, List.replicate, Nat.reduceAdd, Nat.reduceSub]
  repeat' first | ((with_reducible show aol _ _ _ _ _); first|(refine gF (by rfl) ?_ ?_; focus simp only [go_sem]; done)|(refine gU (by rfl) ?_ ?_; focus simp only [go_sem]; done))|((with_reducible refine hK _ ?_); clear hK K; try simp only [nx])|(with_reducible first|refine aS fun K hK => ?_|refine aB ?_|apply And.intro|exact True.intro)|((first|((with_reducible show aol _ _ _ _ _); try first|(refine gT (by rfl) ?_ ?_; focus simp only [go_sem]; done)|refine gB (by rfl) (by rfl) (fun h => ?_) (fun h => ?_) <;> (try simp only [hsX, reduceCtorEq] at h))|((with_reducible show Awp _ _ (Code.region _ _ _) _ _); first|refine rK (by repeat constructor) (fun K hK => ?_)|(refine dK (by kernel_rfl) (by repeat constructor) (fun K hK => ?_)))) <;> simp (maxSteps := 2000000) (disch := omega) only [go_sem, ↓reduceIte, Nat.reduceEqDiff, Nat.reduceAdd, Nat.reduceLT, Nat.reduceLeDiff, Nat.reduceSub, tWithin, tFull, inR_isSet])|((with_reducible show Awp _ _ (Code.cond _ _ _) _ _); refine aC rfl (fun h => ?_) (fun h => ?_) <;> (try simp only [hsX, reduceCtorEq] at h))|((with_reducible first|refine aK ?_|refine aR ?_); simp only [nx])|((with_reducible refine aE ?_); simp only [nx, ne_eq, not_false_eq_true, Nat.reduceEqDiff, reduceCtorEq]; try ((repeat ((fail_if_success refine hK _ ?_); clear hK K)); refine hK _ ?_; clear hK K))|((with_reducible first|show List.all _ _ = true|show lendOk _ _ = true); rfl)|omega|((with_reducible first|show ¬ _|show _ → _); intro h; first|contradiction|cases h; done|skip)
  all_goals (try (first|refine fK ?_|refine fM ?_; repeat clear hK))
  · refine fin_tmp rfl ?_; simp only [nth_zero, nth_succ]; rw [famV_no (by assumption)]
  have hg := h
  refine awp_for (fun s (k : Nat) => s.at [1] [(3, .i k)] s.hp) (fun k => k ≤ l.length ∧ (l.take k).all (isSet g) = true ∧ ∀ j, j + 1 < k → l.getD j 0 < l.getD (j + 1) 0) (fun k => l.length - k) 0 ⟨by omega, by simp, by omega⟩ ?_ ?_
  · simp [-List.getD_eq_getElem?_getD, -List.length_take, Le, leFr, ASt.at, keepFr, updAll, upd_zero, upd_succ]
  rintro k ⟨hk, ha, hi⟩
  simp only [ASt.at, keepFr, updAll, upd_zero, upd_succ, lgA, Nat.reduceEqDiff, Nat.reduceAdd, ↓reduceIte, eq_self]
  have tn : ((k : Int) - 1).toNat = k - 1 := by omega
  repeat' first | ((with_reducible show aol _ _ _ _ _); first|(refine gF (by rfl) ?_ ?_; focus simp only [go_sem]; done)|(refine gU (by rfl) ?_ ?_; focus simp only [go_sem]; done))|((with_reducible refine hK _ ?_); clear hK K; try simp only [nx])|(with_reducible first|refine aS fun K hK => ?_|refine aB ?_|apply And.intro|exact True.intro)|((first|((with_reducible show aol _ _ _ _ _); try first|(refine gT (by rfl) ?_ ?_; focus simp only [go_sem]; done)|refine gB (by rfl) (by rfl) (fun h => ?_) (fun h => ?_) <;> (try simp only [hsX, reduceCtorEq] at h))|((with_reducible show Awp _ _ (Code.region _ _ _) _ _); first|refine rK (by repeat constructor) (fun K hK => ?_)|(refine dK (by kernel_rfl) (by repeat constructor) (fun K hK => ?_)))) <;> simp (maxSteps := 2000000) (disch := omega) only [go_sem, ↓reduceIte, Nat.reduceEqDiff, Nat.reduceAdd, Nat.reduceLT, Nat.reduceLeDiff, Nat.reduceSub, tWithin, tFull, inR_isSet, tn])|((with_reducible show Awp _ _ (Code.cond _ _ _) _ _); refine aC rfl (fun h => ?_) (fun h => ?_) <;> (try simp only [hsX, reduceCtorEq] at h))|((with_reducible first|refine aK ?_|refine aR ?_); simp only [nx])|((with_reducible refine aE ?_); simp only [nx, ne_eq, not_false_eq_true, Nat.reduceEqDiff, reduceCtorEq]; try ((repeat ((fail_if_success refine hK _ ?_); clear hK K)); refine hK _ ?_; clear hK K))|((with_reducible first|show List.all _ _ = true|show lendOk _ _ = true); rfl)|omega|((with_reducible first|show ¬ _|show _ → _); intro h; first|contradiction|cases h; done|skip)
  all_goals (try (first|refine fK ?_|refine fM ?_; repeat clear hK))
  · refine fin_tmp rfl ?_; simp only [nth_zero, nth_succ]
    rw [famV_dec (inc_false (j := k - 1) (by omega) (by rw [Nat.sub_add_cancel (by omega)]; exact h))]
  · refine ⟨k + 1, ⟨by omega, all_take_succ (by omega) ha (by rw [isSet_iff]; omega), fun j h1 => ?_⟩, by omega, ?_⟩
    · by_cases e : j + 1 = k
      · obtain rfl : j = k - 1 := by omega
        rw [Nat.sub_add_cancel (by omega)]; exact h
      · exact hi j (by omega)
    · simp [-List.getD_eq_getElem?_getD, -List.length_take, Le, leFr, ASt.at, keepFr, updAll, upd_zero, upd_succ]
  · refine ⟨k + 1, ⟨by omega, all_take_succ (by omega) ha (by rw [isSet_iff]; omega), fun j h1 => by omega⟩, by omega, ?_⟩
    simp [-List.getD_eq_getElem?_getD, -List.length_take, Le, leFr, ASt.at, keepFr, updAll, upd_zero, upd_succ]
  · refine fin_tmp rfl ?_; simp only [nth_zero, nth_succ]
    rw [famV_not (all_of_getD (k := k) (by omega) (by rw [isSet_not]; assumption))]
  · refine fin_tmp rfl ?_; simp only [nth_zero, nth_succ]
    rw [List.take_of_length_le (by omega)] at ha
    rw [famV_yes hg ha (inc_true fun j h2 => hi j (by omega))]
end Go.Proofs.YthoionlldmfpiaaGreat
namespace Go.Proofs.YthoionlldmfpiaaGreat
open Go Go.Ab
attribute [local irreducible] aol
theorem famV_iff {g : Int} {l : List Int} : famV g l = true ↔ (0 ≤ g ∧ g ≤ 6) ∧ l.all (isSet g) = true ∧ incB l = true := by
  unfold famV; rw [Bool.and_eq_true, Bool.and_eq_true, inR_iff]
end Go.Proofs.YthoionlldmfpiaaGreat
namespace Go.Proofs.YthoionlldmfpiaaGreat
open Go Go.Ab
attribute [local irreducible] aol
theorem allR_succ {p : Nat → Bool} {k : Nat} (h : (List.range k).all p = true) (hp : p k = true) : (List.range (k + 1)).all p = true := by
  rw [List.range_succ, List.all_append, h]; simp [hp]
theorem allR_no {p : Nat → Bool} {n k : Nat} (hk : k < n) (hp : p k = false) : (List.range n).all p = false := by
  rw [List.all_eq_false]; exact ⟨k, List.mem_range.2 hk, by rw [hp]; decide⟩
def seek (p : Nat → Bool) : Nat → Nat → Option Nat
  | 0, _ => none
  | n + 1, j => if p j then some j else seek p n (j + 1)
def seek2 {β : Type} (q : Nat → Option β) : Nat → Nat → Option β
  | 0, _ => none
  | n + 1, i => match q i with | some x => some x | none => seek2 q n (i + 1)
theorem seek_at {p : Nat → Bool} {m k : Nat} (h : k < m) : seek p (m - k) k = if p k then some k else seek p (m - (k + 1)) (k + 1) := by
  obtain ⟨n, hn⟩ : ∃ n, m - k = n + 1 := ⟨m - k - 1, by omega⟩
  rw [hn, show m - (k + 1) = n by omega]; rfl
theorem seek2_at {β : Type} {q : Nat → Option β} {m k : Nat} (h : k < m) : seek2 q (m - k) k = match q k with | some x => some x | none => seek2 q (m - (k + 1)) (k + 1) := by
  obtain ⟨n, hn⟩ : ∃ n, m - k = n + 1 := ⟨m - k - 1, by omega⟩
  rw [hn, show m - (k + 1) = n by omega]; rfl
theorem seek_none {p : Nat → Bool} : ∀ {n j : Nat}, seek p n j = none ↔ ∀ k, j ≤ k → k < j + n → p k = false
  | 0, j => by simp [seek]; omega
  | n + 1, j => by
    unfold seek
    cases h : p j with
    | true => simp only [↓reduceIte, reduceCtorEq, false_iff]; intro h'; have := h' j (by omega) (by omega); simp_all
    | false =>
      simp only [Bool.false_eq_true, ↓reduceIte, seek_none (n := n)]
      constructor
      · intro h' k h1 h2
        by_cases e : k = j
        · subst e; exact h
        · exact h' k (by omega) (by omega)
      · intro h' k h1 h2; exact h' k (by omega) (by omega)
theorem seek2_none {β : Type} {q : Nat → Option β} : ∀ {n j : Nat}, seek2 q n j = none ↔ ∀ k, j ≤ k → k < j + n → q k = none
  | 0, j => by simp [seek2]; omega
  | n + 1, j => by
    unfold seek2
    cases h : q j with
    | some x => simp only [reduceCtorEq, false_iff]; intro h'; have := h' j (by omega) (by omega); simp_all
    | none =>
      simp only [seek2_none (n := n)]
      constructor
      · intro h' k h1 h2
        by_cases e : k = j
        · subst e; exact h
        · exact h' k (by omega) (by omega)
      · intro h' k h1 h2; exact h' k (by omega) (by omega)
theorem fin_tmp3 {C : Cfg} {t u v : Tmp} {x y z : AV} {s : ASt} (hr : (AV.tu [x, y, z]).ren [] = .tu [x, y, z]) (h : nth s.fr t = x) (h' : nth s.fr u = y) (h'' : nth s.fr v = z) : FinS C [.tmp t, .tmp u, .tmp v] (.tu [x, y, z]) [] s :=
  ⟨s, Wk.refl s, _, _, rfl, ⟨trivial, trivial, trivial, trivial⟩, [], List.nodup_nil, by rw [hr, ← h, ← h', ← h''], rfl⟩
theorem getD_all {l : List Int} {p : Int → Bool} (h : l.all p = true) {k : Nat} (hk : k < l.length) : p (l.getD k 0) = true := by
  rw [List.all_eq_true] at h
  refine h _ ?_
  rw [List.getD_eq_getElem?_getD, List.getElem?_eq_getElem hk]
  exact List.getElem_mem _
end Go.Proofs.YthoionlldmfpiaaGreat
