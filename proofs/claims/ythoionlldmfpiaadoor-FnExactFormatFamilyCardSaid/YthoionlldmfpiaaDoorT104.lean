import Derived.Test.YthoionlldmfpiaaDoorHs
import Derived.Test.YthoionlldmfpiaaDoorT103
set_option linter.unusedSimpArgs false
set_option linter.unusedVariables false
set_option maxHeartbeats 2000000
namespace Go.Proofs.YthoionlldmfpiaaDoor
open Go Go.Ab
attribute [local irreducible] aol
def ffL (g : Int) (l : List Int) : List UInt8 := Lib.join (l.map (fsV g)) [124]
def ffV (g : Int) (l : List Int) : List UInt8 := if famV g l then (if l = [] then [110, 111, 110, 101] else ffL g l) else []
def tFf : Tab
  | [.ag [.i g, .sl .i64 l]] => some (l.length ≤ 1048576, .v (.string ⟨List.toArray (ffV g l)⟩), [])
  | _ => none
theorem fsL_len (s : Int) : (fsL s).length ≤ 24 := by
  unfold fsL
  split
  · simp
  · have h1 := itoas_le (elL_small s.toNat) [44]
    have h2 := elL_len s.toNat 6
    simp only [List.length_cons, List.length_nil] at h1
    omega
theorem fsV_len (n s : Int) : (fsV n s).length ≤ 24 := by
  unfold fsV
  split
  · exact fsL_len s
  · simp
theorem fsL_ne {s : Int} (h : 0 ≤ s ∧ s < 64) : fsL s ≠ [] := by
  unfold fsL
  split
  · simp
  · rename_i h0
    exact fun e => h0 (by have := (join_empty (s := s.toNat) (by omega)).1 e; omega)
theorem ff_len (g : Int) (l : List Int) : (ffL g l).length ≤ l.length * 25 := by
  have := join_le (k := 24) (sep := [124]) (xs := l.map (fsV g)) (fun x hx => by
    obtain ⟨y, _, rfl⟩ := List.mem_map.1 hx
    exact fsV_len g y)
  rwa [List.length_map] at this
theorem ffL_step {g : Int} {l : List Int} {i : Nat} (h : i < l.length) (hi : 0 < i) :
    ffL g (l.take (i + 1)) = (ffL g (l.take i) ++ [124]) ++ fsV g (l.getD i 0) := by
  unfold ffL
  rw [map_snoc _ h, join_snoc]
  intro e
  have := congrArg List.length e
  rw [List.length_map, List.length_take, List.length_nil] at this
  omega
theorem ffL_first {g : Int} {l : List Int} (h : 0 < l.length) : ffL g (l.take (0 + 1)) = ffL g (l.take 0) ++ fsV g (l.getD 0 0) := by
  unfold ffL
  rw [map_snoc _ h]; simp [Lib.join_one, Lib.join_nil]
theorem fam_set {g : Int} {l : List Int} (h : famV g l = true) {x : Int} (hx : x ∈ l) : (0 ≤ g ∧ g ≤ 6) ∧ isSet g x = true := by
  unfold famV at h
  rw [Bool.and_eq_true, Bool.and_eq_true, inR_iff] at h
  exact ⟨h.1, List.all_eq_true.1 h.2.1 x hx⟩
theorem ffL_ne {g : Int} {l : List Int} (h : famV g l = true) (hl : l ≠ []) : ffL g l ≠ [] := by
  refine join_ne (by simpa using hl) fun x hx => ?_
  obtain ⟨y, hy, rfl⟩ := List.mem_map.1 hx
  obtain ⟨h1, h2⟩ := fam_set h hy
  rw [fsV_yes h1 h2]
  exact fsL_ne (set64 h1 h2)
theorem fam_len {g : Int} {l : List Int} (h : famV g l = true) : l.length ≤ 64 := by
  have h' := famV_iff.1 h
  have e : l = rangeL (fun x => decide (x ∈ l)) (2 ^ g.toNat) := asc_ext (asc_of_inc h'.2.2) (rangeL_asc _ _) fun x => by
    rw [mem_rangeL, decide_eq_true_eq, ← isSet_range h'.1.1]
    exact ⟨fun hx => ⟨List.all_eq_true.1 h'.2.1 x hx, hx⟩, fun hx => hx.2⟩
  rw [e]; exact Nat.le_trans (rangeL_len ..) (Nat.pow_le_pow_right (by decide) (by have := h'.1; omega : g.toNat ≤ 6))
theorem ff_no {g : Int} {l : List Int} (h : famV g l = false) : ffV g l = [] := by unfold ffV; rw [h]; rfl
theorem ff_none {g : Int} {l : List Int} (h : famV g l = true) (h1 : (l.length : Int) = 0) : ffV g l = [110, 111, 110, 101] := by
  unfold ffV; rw [if_pos h, if_pos (List.length_eq_zero_iff.1 (by omega))]
theorem ff_yes {g : Int} {l : List Int} (h : famV g l = true) (h1 : ¬ (l.length : Int) = 0) : ffV g l = ffL g l := by
  unfold ffV; rw [if_pos h, if_neg (fun e => h1 (by rw [e]; rfl))]
theorem implFf_ok : Fits Tryd.prog 12 tFf := by
  refine ⟨callable_of Tryd.func12 (by kernel_rfl) rfl, ?_⟩
  intro args p out Ho h hp
  unfold tFf at h
  split at h <;> cases h
  rename_i g l
  refine ⟨acall_by (env_ok (env := [(31, tIsF), (8, tFs), (32, tJn)]) (by simp only [fmA, and_true]; exact ⟨implIsF_ok, implFs_ok, cJoin_ok⟩)) Tryd.func12 rfl rfl rfl rfl rfl ?_, rfl, rfl⟩
  intro hlen c hc hX
  simp only [lensOk, AV.lenOk, true_and, and_true] at hlen
  simp only [Tryd.ntmps12, Tryd.results12, lsA, List.replicate, Nat.reduceAdd, Nat.reduceSub]
  have hj := ff_len g l
  repeat' first | ((with_reducible show aol _ _ _ _ _); first|(refine gF (by rfl) ?_ ?_; focus simp only [go_sem]; done)|(refine gU (by rfl) ?_ ?_; focus simp only [go_sem]; done))|((with_reducible refine hK _ ?_); clear hK K; try simp only [nx])|(with_reducible first|refine aS fun K hK => ?_|refine aB ?_|apply And.intro|exact True.intro)|((first|((with_reducible show aol _ _ _ _ _); try first|(refine gT (by rfl) ?_ ?_; focus simp only [go_sem]; done)|refine gB (by rfl) (by rfl) (fun h => ?_) (fun h => ?_) <;> (try simp only [hsX, reduceCtorEq] at h))|((with_reducible show Awp _ _ (Code.region _ _ _) _ _); first|refine rK (by repeat constructor) (fun K hK => ?_)|(refine dK (by kernel_rfl) (by repeat constructor) (fun K hK => ?_)))) <;> simp (maxSteps := 2000000) (disch := omega) only [go_sem, ↓reduceIte, Nat.reduceEqDiff, Nat.reduceAdd, Nat.reduceLT, Nat.reduceLeDiff, Nat.reduceSub, tIsF, tFs, tJn])|((with_reducible show Awp _ _ (Code.cond _ _ _) _ _); refine aC rfl (fun h => ?_) (fun h => ?_) <;> (try simp only [hsX, reduceCtorEq] at h))|((with_reducible first|refine aK ?_|refine aR ?_); simp only [nx])|((with_reducible refine aE ?_); simp only [nx, ne_eq, not_false_eq_true, Nat.reduceEqDiff, reduceCtorEq]; try ((repeat ((fail_if_success refine hK _ ?_); clear hK K)); refine hK _ ?_; clear hK K))|((with_reducible first|show List.all _ _ = true|show lendOk _ _ = true); rfl)|omega|((with_reducible first|show ¬ _|show _ → _); intro h; first|contradiction|cases h; done|skip)
  all_goals (try (first|refine fK ?_|refine fM ?_; repeat clear hK))
  · exact fin_tmp rfl (str_eq (ff_no (by assumption)).symm)
  · exact fin_tmp rfl (str_eq (ff_none (by assumption) (by assumption)).symm)
  rename_i hf
  have hne := h
  have hll := fam_len hf
  refine awp_wk (wk_nlC 9 1 (t := 3) rfl) ?_
  refine awp_forR 0 hX (fun s (i : Nat) => s.at [1, 14, 15] [(3, .own 1), (16, .i i)] [.box 29 [.i g, .sl .i64 l], .rc 9 1 (sr ((l.take i).map (fsV g)))]) (fun i => i ≤ l.length) (fun i => l.length - i) 0 (Nat.zero_le _) ?_ ?_
  · exact ⟨[0, 1], rfl, rfl, by simp [-List.getD_eq_getElem?_getD, -List.length_take, gdA, leFr, ASt.at, keepFr, updAll, upd_zero, upd_succ, AV.rnb, AV.rnb0, sr_nil], by simp [-List.getD_eq_getElem?_getD, gdA, ASt.at, AO.rnb, AV.rnb0, upd_k0, upd_k1, upd_k2, upd_k3, sr_nil], rfl, rfl⟩
  rintro i hi
  simp only [ASt.at, keepFr, updAll, upd_zero, upd_succ, lgA, Nat.reduceEqDiff, Nat.reduceAdd, ↓reduceIte, eq_self]
  have ht : ((l.take i).map (fsV g)).length ≤ 64 := by rw [List.length_map, List.length_take]; omega
  have e : Lib.join (l.map (fsV g)) [124] = ffL g l := rfl
  repeat' first | ((with_reducible show aol _ _ _ _ _); first|(refine gF (by rfl) ?_ ?_; focus simp only [go_sem]; done)|(refine gU (by rfl) ?_ ?_; focus simp only [go_sem]; done))|((with_reducible refine hK _ ?_); clear hK K; try simp only [nx])|(with_reducible first|refine aS fun K hK => ?_|refine aB ?_|apply And.intro|exact True.intro)|((first|((with_reducible show aol _ _ _ _ _); try first|(refine gT (by rfl) ?_ ?_; focus simp only [go_sem]; done)|refine gB (by rfl) (by rfl) (fun h => ?_) (fun h => ?_) <;> (try simp only [hsX, reduceCtorEq] at h))|((with_reducible show Awp _ _ (Code.region _ _ _) _ _); first|refine rK (by repeat constructor) (fun K hK => ?_)|(refine dK (by kernel_rfl) (by repeat constructor) (fun K hK => ?_)))) <;> simp (maxSteps := 2000000) (disch := omega) only [go_sem, ↓reduceIte, Nat.reduceEqDiff, Nat.reduceAdd, Nat.reduceLT, Nat.reduceLeDiff, Nat.reduceSub, tIsF, tFs, tJn, strs_sr, sr_len])|((with_reducible show Awp _ _ (Code.cond _ _ _) _ _); refine aC rfl (fun h => ?_) (fun h => ?_) <;> (try simp only [hsX, reduceCtorEq] at h))|((with_reducible first|refine aK ?_|refine aR ?_); simp only [nx])|((with_reducible refine aE ?_); simp only [nx, ne_eq, not_false_eq_true, Nat.reduceEqDiff, reduceCtorEq]; try ((repeat ((fail_if_success refine hK _ ?_); clear hK K)); refine hK _ ?_; clear hK K))|((with_reducible first|show List.all _ _ = true|show lendOk _ _ = true); rfl)|omega|((with_reducible first|show ¬ _|show _ → _); intro h; first|contradiction|cases h; done|skip)
  all_goals (try (first|refine fK ?_|refine fM ?_; repeat clear hK))
  · refine ⟨i + 1, by omega, by omega, ?_⟩
    rw [map_snoc _ (by omega), ← sr_app]
    exact ⟨[0, 3], rfl, rfl, by simp [-List.getD_eq_getElem?_getD, -List.length_take, gdA, leFr, ASt.at, keepFr, updAll, upd_zero, upd_succ, AV.rnb, AV.rnb0], by simp [-List.getD_eq_getElem?_getD, gdA, ASt.at, AO.rnb, AV.rnb0, upd_k0, upd_k1, upd_k2, upd_k3], rfl, rfl⟩
  · rw [List.take_of_length_le (by omega), e]; omega
  · refine fin_tmp rfl (str_eq ?_)
    rw [List.take_of_length_le (by omega), ff_yes hf hne]; exact e
theorem specFf_ok : Fits Tryd.prog 10 tFf := by
  refine ⟨callable_of Tryd.func10 (by kernel_rfl) rfl, ?_⟩
  intro args p out Ho h hp
  unfold tFf at h
  split at h <;> cases h
  rename_i g l
  refine ⟨acall_by (env_ok (env := [(29, tIsF), (7, tFs)]) (by simp only [fmA, and_true]; exact ⟨specIsF_ok, specFs_ok⟩)) Tryd.func10 rfl rfl rfl rfl rfl ?_, rfl, rfl⟩
  intro hlen c hc hX
  simp only [lensOk, AV.lenOk, true_and, and_true] at hlen
  simp only [Tryd.ntmps10, Tryd.results10, lsA, List.replicate, Nat.reduceAdd, Nat.reduceSub]
  repeat' first | ((with_reducible show aol _ _ _ _ _); first|(refine gF (by rfl) ?_ ?_; focus simp only [go_sem]; done)|(refine gU (by rfl) ?_ ?_; focus simp only [go_sem]; done))|((with_reducible refine hK _ ?_); clear hK K; try simp only [nx])|(with_reducible first|refine aS fun K hK => ?_|refine aB ?_|apply And.intro|exact True.intro)|((first|((with_reducible show aol _ _ _ _ _); try first|(refine gT (by rfl) ?_ ?_; focus simp only [go_sem]; done)|refine gB (by rfl) (by rfl) (fun h => ?_) (fun h => ?_) <;> (try simp only [hsX, reduceCtorEq] at h))|((with_reducible show Awp _ _ (Code.region _ _ _) _ _); first|refine rK (by repeat constructor) (fun K hK => ?_)|(refine dK (by kernel_rfl) (by repeat constructor) (fun K hK => ?_)))) <;> simp (maxSteps := 2000000) (disch := omega) only [go_sem, ↓reduceIte, Nat.reduceEqDiff, Nat.reduceAdd, Nat.reduceLT, Nat.reduceLeDiff, Nat.reduceSub, tIsF, tFs])|((with_reducible show Awp _ _ (Code.cond _ _ _) _ _); refine aC rfl (fun h => ?_) (fun h => ?_) <;> (try simp only [hsX, reduceCtorEq] at h))|((with_reducible first|refine aK ?_|refine aR ?_); simp only [nx])|((with_reducible refine aE ?_); simp only [nx, ne_eq, not_false_eq_true, Nat.reduceEqDiff, reduceCtorEq]; try ((repeat ((fail_if_success refine hK _ ?_); clear hK K)); refine hK _ ?_; clear hK K))|((with_reducible first|show List.all _ _ = true|show lendOk _ _ = true); rfl)|omega|((with_reducible first|show ¬ _|show _ → _); intro h; first|contradiction|cases h; done|skip)
  all_goals (try (first|refine fK ?_|refine fM ?_; repeat clear hK))
  cases hf : famV g l with
  | false =>
    refine awp_for (fun s (i : Nat) => s.at [1, 3, 4] [] s.hp) (fun i => True) (fun i => 0) 0 trivial ?_ ?_
    · simp [-List.getD_eq_getElem?_getD, -List.length_take, Le, leFr, ASt.at, keepFr, updAll, upd_zero, upd_succ]
    rintro i _
    simp only [ASt.at, keepFr, updAll, upd_zero, upd_succ, lgA, Nat.reduceEqDiff, Nat.reduceAdd, ↓reduceIte, eq_self]
    repeat' first | ((with_reducible show aol _ _ _ _ _); first|(refine gF (by rfl) ?_ ?_; focus simp only [go_sem]; done)|(refine gU (by rfl) ?_ ?_; focus simp only [go_sem]; done))|((with_reducible refine hK _ ?_); clear hK K; try simp only [nx])|(with_reducible first|refine aS fun K hK => ?_|refine aB ?_|apply And.intro|exact True.intro)|((first|((with_reducible show aol _ _ _ _ _); try first|(refine gT (by rfl) ?_ ?_; focus simp only [go_sem]; done)|refine gB (by rfl) (by rfl) (fun h => ?_) (fun h => ?_) <;> (try simp only [hsX, reduceCtorEq] at h))|((with_reducible show Awp _ _ (Code.region _ _ _) _ _); first|refine rK (by repeat constructor) (fun K hK => ?_)|(refine dK (by kernel_rfl) (by repeat constructor) (fun K hK => ?_)))) <;> simp (maxSteps := 2000000) (disch := omega) only [go_sem, ↓reduceIte, Nat.reduceEqDiff, Nat.reduceAdd, Nat.reduceLT, Nat.reduceLeDiff, Nat.reduceSub, tIsF, tFs, hf])|((with_reducible show Awp _ _ (Code.cond _ _ _) _ _); refine aC rfl (fun h => ?_) (fun h => ?_) <;> (try simp only [hsX, reduceCtorEq] at h))|((with_reducible first|refine aK ?_|refine aR ?_); simp only [nx])|((with_reducible refine aE ?_); simp only [nx, ne_eq, not_false_eq_true, Nat.reduceEqDiff, reduceCtorEq]; try ((repeat ((fail_if_success refine hK _ ?_); clear hK K)); refine hK _ ?_; clear hK K))|((with_reducible first|show List.all _ _ = true|show lendOk _ _ = true); rfl)|omega|((with_reducible first|show ¬ _|show _ → _); intro h; first|contradiction|cases h; done|skip)
    all_goals (try (first|refine fK ?_|refine fM ?_; repeat clear hK))
    all_goals exact fin_tmp rfl (str_eq (ff_no hf).symm)
  | true =>
    have hll := fam_len hf
    refine awp_for (fun s (i : Nat) => s.at [1] [(3, .v (.string ⟨List.toArray (ffL g (l.take i))⟩)), (4, .i i)] s.hp) (fun i => i ≤ l.length) (fun i => l.length - i) 0 (Nat.zero_le _) ?_ ?_
    · simp [-List.getD_eq_getElem?_getD, -List.length_take, Le, leFr, ASt.at, keepFr, updAll, upd_zero, upd_succ, ffL, Lib.join_nil]
    rintro i hi
    simp only [ASt.at, keepFr, updAll, upd_zero, upd_succ, lgA, Nat.reduceEqDiff, Nat.reduceAdd, ↓reduceIte, eq_self]
    have hj := ff_len g (l.take i)
    have hjl : (l.take i).length ≤ 64 := by rw [List.length_take]; omega
    have hjb : (ffL g (l.take i)).length ≤ 1600 := by omega
    have hit := fsV_len g (l.getD i 0)
    repeat' first | ((with_reducible show aol _ _ _ _ _); first|(refine gF (by rfl) ?_ ?_; focus simp only [go_sem]; done)|(refine gU (by rfl) ?_ ?_; focus simp only [go_sem]; done))|((with_reducible refine hK _ ?_); clear hK K; try simp only [nx])|(with_reducible first|refine aS fun K hK => ?_|refine aB ?_|apply And.intro|exact True.intro)|((first|((with_reducible show aol _ _ _ _ _); try first|(refine gT (by rfl) ?_ ?_; focus simp only [go_sem]; done)|refine gB (by rfl) (by rfl) (fun h => ?_) (fun h => ?_) <;> (try simp only [hsX, reduceCtorEq] at h))|((with_reducible show Awp _ _ (Code.region _ _ _) _ _); first|refine rK (by repeat constructor) (fun K hK => ?_)|(refine dK (by kernel_rfl) (by repeat constructor) (fun K hK => ?_)))) <;> simp (maxSteps := 2000000) (disch := omega) only [go_sem, ↓reduceIte, Nat.reduceEqDiff, Nat.reduceAdd, Nat.reduceLT, Nat.reduceLeDiff, Nat.reduceSub, tIsF, tFs, hf, List.length_append])|((with_reducible show Awp _ _ (Code.cond _ _ _) _ _); refine aC rfl (fun h => ?_) (fun h => ?_) <;> (try simp only [hsX, reduceCtorEq] at h))|((with_reducible first|refine aK ?_|refine aR ?_); simp only [nx])|((with_reducible refine aE ?_); simp only [nx, ne_eq, not_false_eq_true, Nat.reduceEqDiff, reduceCtorEq]; try ((repeat ((fail_if_success refine hK _ ?_); clear hK K)); refine hK _ ?_; clear hK K))|((with_reducible first|show List.all _ _ = true|show lendOk _ _ = true); rfl)|omega|((with_reducible first|show ¬ _|show _ → _); intro h; first|contradiction|cases h; done|skip)
    all_goals (try (first|refine fK ?_|refine fM ?_; repeat clear hK))
    · refine ⟨i + 1, by omega, by omega, ?_⟩
      rw [ffL_step (by omega) (by omega)]
      simp [-List.getD_eq_getElem?_getD, -List.length_take, Le, leFr, ASt.at, keepFr, updAll, upd_zero, upd_succ]
    · obtain rfl : i = 0 := by omega
      refine ⟨0 + 1, by omega, by omega, ?_⟩
      rw [ffL_first (by omega)]
      simp [-List.getD_eq_getElem?_getD, -List.length_take, Le, leFr, ASt.at, keepFr, updAll, upd_zero, upd_succ]
    · rename_i h0
      rw [List.take_of_length_le (by omega)] at h0
      have hl0 : l = [] := by
        by_cases e : l = []
        · exact e
        · exact absurd h0 (ffL_ne hf e)
      exact fin_tmp rfl (str_eq (ff_none hf (by rw [hl0]; rfl)).symm)
    · rename_i h0
      rw [List.take_of_length_le (by omega)] at h0
      have hl0 : ¬ (l.length : Int) = 0 := fun e => h0 (by rw [List.length_eq_zero_iff.1 (by omega : l.length = 0)]; rfl)
      refine fin_tmp rfl (str_eq ?_)
      rw [List.take_of_length_le (by omega), ff_yes hf hl0]
def tTrFam : Tab
  | [.ag [.i _, .sl .i64 _]] => some (True, .b true, [])
  | _ => none
theorem exactFf_ok : Fits Tryd.prog 4 tTrFam := by
  refine ⟨callable_of Tryd.func4 (by kernel_rfl) rfl, ?_⟩
  intro args p out Ho h hp
  unfold tTrFam at h
  split at h <;> cases h
  rename_i g l
  refine ⟨acall_by (env_ok (env := [(9, tSzF), (11, tToFamily), (10, tFf), (12, tFf), (13, tEqF)]) (by simp only [fmA, and_true]; exact ⟨szFamily_ok, toFamily_ok, specFf_ok, implFf_ok, eqFamily_ok⟩)) Tryd.func4 rfl rfl rfl rfl rfl ?_, rfl, rfl⟩
  intro hlen c hc hX
  simp only [lensOk, AV.lenOk, true_and, and_true] at hlen
  simp only [Tryd.ntmps4, Tryd.results4, lsA, List.replicate, Nat.reduceAdd, Nat.reduceSub]
  repeat' first | ((with_reducible show aol _ _ _ _ _); first|(refine gF (by rfl) ?_ ?_; focus simp only [go_sem]; done)|(refine gU (by rfl) ?_ ?_; focus simp only [go_sem]; done))|((with_reducible refine hK _ ?_); clear hK K; try simp only [nx])|(with_reducible first|refine aS fun K hK => ?_|refine aB ?_|apply And.intro|exact True.intro)|((first|((with_reducible show aol _ _ _ _ _); try first|(refine gT (by rfl) ?_ ?_; focus simp only [go_sem]; done)|refine gB (by rfl) (by rfl) (fun h => ?_) (fun h => ?_) <;> (try simp only [hsX, reduceCtorEq] at h))|((with_reducible show Awp _ _ (Code.region _ _ _) _ _); first|refine rK (by repeat constructor) (fun K hK => ?_)|(refine dK (by kernel_rfl) (by repeat constructor) (fun K hK => ?_)))) <;> simp (maxSteps := 2000000) (disch := omega) only [go_sem, ↓reduceIte, Nat.reduceEqDiff, Nat.reduceAdd, Nat.reduceLT, Nat.reduceLeDiff, Nat.reduceSub, tSzF, tToFamily, tFf, tEqF])|((with_reducible show Awp _ _ (Code.cond _ _ _) _ _); refine aC rfl (fun h => ?_) (fun h => ?_) <;> (try simp only [hsX, reduceCtorEq] at h))|((with_reducible first|refine aK ?_|refine aR ?_); simp only [nx])|((with_reducible refine aE ?_); simp only [nx, ne_eq, not_false_eq_true, Nat.reduceEqDiff, reduceCtorEq]; try ((repeat ((fail_if_success refine hK _ ?_); clear hK K)); refine hK _ ?_; clear hK K))|((with_reducible first|show List.all _ _ = true|show lendOk _ _ = true); rfl)|omega|((with_reducible first|show ¬ _|show _ → _); intro h; first|contradiction|cases h; done|skip)
  all_goals (try (first|refine fK ?_|refine fM ?_; repeat clear hK))
  all_goals (refine fin_tmp rfl ?_; rfl)
end Go.Proofs.YthoionlldmfpiaaDoor
