import Derived.Test.YthoionlldmfpiaaDoorT101
import Derived.Test.YthoionlldmfpiaaDoorHs
import Derived.Test.YthoionlldmfpiaaDoorT6
set_option linter.unusedSimpArgs false
set_option linter.unusedVariables false
set_option maxHeartbeats 2000000
namespace Go.Proofs.YthoionlldmfpiaaDoor
open Go Go.Ab
attribute [local irreducible] aol
def eOk (n : Int) (p : List UInt8) : Bool := piB p && inR (piN p) 0 (n - 1)
def orB (x e : Int) : Int := ior x (2 ^ e.toNat)
def ipV (n : Int) : List (List UInt8) → Int → Option Int
  | [], x => some x
  | p :: ps, x => if eOk n p then ipV n ps (orB x (piN p)) else none
def psV (n : Int) : List UInt8 → List UInt8 → Int → Option Int
  | [], p, x => if eOk n p then some (orB x (piN p)) else none
  | b :: s, p, x => if b = 44 then (if eOk n p then psV n s [] (orB x (piN p)) else none) else psV n s (p ++ [b]) x
def hd (p : List UInt8) : List (List UInt8) → List (List UInt8)
  | [] => [p]
  | q :: ps => (p ++ q) :: ps
theorem psV_split (n : Int) : ∀ (s p : List UInt8) (x : Int), psV n s p x = ipV n (hd p (splitC 44 s)) x
  | [], p, x => by simp [psV, splitC, hd, ipV]
  | b :: s, p, x => by
    rw [psV, splitC]
    split
    · have := psV_split n s [] (orB x (piN p))
      have h0 := (splitC_len 44 s).2
      cases hc : splitC 44 s with
      | nil => rw [hc] at h0; simp at h0
      | cons q ps =>
        rw [hc] at this
        simp only [hd, List.append_nil, ipV, List.nil_append] at this ⊢
        rw [this]
    · rw [psV_split n s (p ++ [b]) x]
      have h0 := (splitC_len 44 s).2
      cases hc : splitC 44 s with
      | nil => rw [hc] at h0; simp at h0
      | cons q ps => simp [hd]
theorem psV_ip (n : Int) (s : List UInt8) (x : Int) : psV n s [] x = ipV n (splitC 44 s) x := by
  rw [psV_split]
  have h0 := (splitC_len 44 s).2
  cases hc : splitC 44 s with
  | nil => rw [hc] at h0; simp at h0
  | cons q ps => simp [hd]
def qV (n : Int) (s : List UInt8) : Option Int :=
  if inR n 0 6 then (if s = [45] then some 0 else match ipV n (splitC 44 s) 0 with
    | none => none
    | some x => if fsV n x = s then some x else none) else none
def qN (n : Int) (s : List UInt8) : Int := (qV n s).getD 0
def qB (n : Int) (s : List UInt8) : Bool := (qV n s).isSome
theorem q_out {n : Int} {s : List UInt8} (h : ¬ (0 ≤ n ∧ n ≤ 6)) : qN n s = 0 ∧ qB n s = false := by
  rw [← inR_not] at h; unfold qN qB qV; rw [h]; exact ⟨rfl, rfl⟩
theorem q_dash {n : Int} {s : List UInt8} (h : 0 ≤ n ∧ n ≤ 6) (h1 : s = [45]) : qN n s = 0 ∧ qB n s = true := by
  rw [← inR_iff] at h; unfold qN qB qV; rw [if_pos h, if_pos h1]; exact ⟨rfl, rfl⟩
theorem q_none {n : Int} {s : List UInt8} (h1 : ¬ s = [45]) (h2 : ipV n (splitC 44 s) 0 = none) : qN n s = 0 ∧ qB n s = false := by
  unfold qN qB qV; rw [if_neg h1, h2]; split <;> exact ⟨rfl, rfl⟩
theorem q_some {n : Int} {x : Int} {s : List UInt8} (h : 0 ≤ n ∧ n ≤ 6) (h1 : ¬ s = [45]) (h2 : ipV n (splitC 44 s) 0 = some x) (h3 : fsV n x = s) : qN n s = x ∧ qB n s = true := by
  rw [← inR_iff] at h; unfold qN qB qV; rw [if_pos h, if_neg h1, h2]; simp only [h3, if_true]; exact ⟨rfl, rfl⟩
theorem q_bad {n : Int} {x : Int} {s : List UInt8} (h1 : ¬ s = [45]) (h2 : ipV n (splitC 44 s) 0 = some x) (h3 : ¬ fsV n x = s) : qN n s = 0 ∧ qB n s = false := by
  unfold qN qB qV; rw [if_neg h1, h2]; simp only [h3, if_false]; split <;> exact ⟨rfl, rfl⟩
theorem eOk_no1 {n : Int} {p : List UInt8} (h : piB p = false) : eOk n p = false := by unfold eOk; rw [h]; rfl
theorem eOk_no2 {n : Int} {p : List UInt8} (h : ¬ (0 ≤ piN p ∧ piN p ≤ n - 1)) : eOk n p = false := by unfold eOk; rw [← inR_not] at h; rw [h, Bool.and_false]
theorem eOk_yes {n : Int} {p : List UInt8} (h : piB p = true) (h' : 0 ≤ piN p ∧ piN p ≤ n - 1) : eOk n p = true := by unfold eOk; rw [← inR_iff] at h'; rw [h, h']; rfl
theorem ip_no {n x : Int} {p : List UInt8} {ps : List (List UInt8)} (h : eOk n p = false) : ipV n (p :: ps) x = none := by rw [ipV, h]; rfl
theorem ip_yes {n x : Int} {p : List UInt8} {ps : List (List UInt8)} (h : eOk n p = true) : ipV n (p :: ps) x = ipV n ps (orB x (piN p)) := by rw [ipV, if_pos h]
theorem drop_cons {α : Type} {ps : List α} {i : Nat} {d : α} (h : i < ps.length) : ps.drop i = ps.getD i d :: ps.drop (i + 1) := by
  rw [List.drop_eq_getElem_cons h, List.getD_eq_getElem?_getD, List.getElem?_eq_getElem h]; rfl
def tPst : Tab
  | [.i n, .v (.string s)] => some (s.size ≤ 1048576, .tu [.i (qN n s.data.toList), .b (qB n s.data.toList)], [])
  | _ => none
theorem fin_q {C : Cfg} {t u : Tmp} {n : Int} {l : List UInt8} {s : ASt} {x : Int} {b : Bool} (h : nth s.fr t = .i x) (h' : nth s.fr u = .b b) (e : qN n l = x ∧ qB n l = b) : FinS C [.tmp t, .tmp u] (.tu [.i (qN n l), .b (qB n l)]) [] s := by
  rw [e.1, e.2]; exact fin_tmp2 rfl h h'
theorem implPs_ok : Fits Tryd.prog 15 tPst := by
  refine ⟨callable_of Tryd.func15 (by kernel_rfl) rfl, ?_⟩
  intro args p out Ho h hp
  unfold tPst at h
  split at h <;> cases h
  rename_i n s
  refine ⟨acall_by (env_ok (env := [(24, tWithin), (35, (tSpl 9)), (36, tPi), (37, tIsEl), (8, tFs)]) (by simp only [fmA, and_true]; exact ⟨within_ok, cSplit_ok, implPi_ok, isElement_ok, implFs_ok⟩)) Tryd.func15 rfl rfl rfl rfl rfl ?_, rfl, rfl⟩
  intro hlen c hc hX
  simp only [lensOk, AV.lenOk, true_and, and_true] at hlen
  simp only [Tryd.ntmps15, Tryd.results15, lsA, List.replicate, Nat.reduceAdd, Nat.reduceSub]
  obtain ⟨l, rfl⟩ := str_list s
  have hsz : l.length ≤ 1048576 := by rw [size_bs] at hp; exact hp
  show Awp _ _ _ (Fin _ _ (.tu [.i (qN n l), .b (qB n l)]) []) _
  have hpl := (splitC_len 44 l).1
  repeat' first | ((with_reducible show aol _ _ _ _ _); first|(refine gF (by rfl) ?_ ?_; focus simp only [go_sem]; done)|(refine gU (by rfl) ?_ ?_; focus simp only [go_sem]; done))|((with_reducible refine hK _ ?_); clear hK K; try simp only [nx])|(with_reducible first|refine aS fun K hK => ?_|refine aB ?_|apply And.intro|exact True.intro)|((first|((with_reducible show aol _ _ _ _ _); try first|(refine gT (by rfl) ?_ ?_; focus simp only [go_sem]; done)|refine gB (by rfl) (by rfl) (fun h => ?_) (fun h => ?_) <;> (try simp only [hsX, reduceCtorEq] at h))|((with_reducible show Awp _ _ (Code.region _ _ _) _ _); first|refine rK (by repeat constructor) (fun K hK => ?_)|(refine dK (by kernel_rfl) (by repeat constructor) (fun K hK => ?_)))) <;> simp (maxSteps := 2000000) (disch := omega) only [go_sem, ↓reduceIte, Nat.reduceEqDiff, Nat.reduceAdd, Nat.reduceLT, Nat.reduceLeDiff, Nat.reduceSub, tWithin, tSpl, tPi, tIsEl, tFs, sr_len, after_rcS, sr_load])|((with_reducible show Awp _ _ (Code.cond _ _ _) _ _); refine aC rfl (fun h => ?_) (fun h => ?_) <;> (try simp only [hsX, reduceCtorEq] at h))|((with_reducible first|refine aK ?_|refine aR ?_); simp only [nx])|((with_reducible refine aE ?_); simp only [nx, ne_eq, not_false_eq_true, Nat.reduceEqDiff, reduceCtorEq]; try ((repeat ((fail_if_success refine hK _ ?_); clear hK K)); refine hK _ ?_; clear hK K))|((with_reducible first|show List.all _ _ = true|show lendOk _ _ = true); rfl)|omega|((with_reducible first|show ¬ _|show _ → _); intro h; first|contradiction|cases h; done|skip)
  all_goals (try (first|refine fK ?_|refine fM ?_; repeat clear hK))
  · exact fin_q rfl rfl (q_out (by assumption))
  · exact fin_q rfl rfl (q_dash (by assumption) (by assumption))
  rename_i hn
  have h45 := h
  generalize hps : splitC 44 l = ps at *
  have hmem : ∀ x ∈ ps, x.length ≤ 1048576 := fun x hx => by
    have := splitC_mem 44 l x (by rw [hps]; exact hx); omega
  refine awp_for (fun s (i : Nat × Int) => s.at [0, 1, 17, 18] [(6, .i i.2), (19, .i i.1)] s.hp) (fun i => i.1 ≤ ps.length ∧ ipV n (ps.drop i.1) i.2 = ipV n ps 0) (fun i => ps.length - i.1) (0, 0) ⟨Nat.zero_le _, rfl⟩ ?_ ?_
  · simp [-List.getD_eq_getElem?_getD, -List.length_take, Le, leFr, ASt.at, keepFr, updAll, upd_zero, upd_succ]
  rintro ⟨i, x⟩ ⟨hi, hv⟩
  simp only at hi hv
  simp only [ASt.at, keepFr, updAll, upd_zero, upd_succ, lgA, Nat.reduceEqDiff, Nat.reduceAdd, ↓reduceIte, eq_self]
  have hsm : i < ps.length → (ps.getD i []).length ≤ 1048576 := fun h => by
    rw [List.getD_eq_getElem?_getD, List.getElem?_eq_getElem h]; exact hmem _ (List.getElem_mem _)
  repeat' first | ((with_reducible show aol _ _ _ _ _); first|(refine gF (by rfl) ?_ ?_; focus simp only [go_sem]; done)|(refine gU (by rfl) ?_ ?_; focus simp only [go_sem]; done))|((with_reducible refine hK _ ?_); clear hK K; try simp only [nx])|(with_reducible first|refine aS fun K hK => ?_|refine aB ?_|apply And.intro|exact True.intro)|((first|((with_reducible show aol _ _ _ _ _); try first|(refine gT (by rfl) ?_ ?_; focus simp only [go_sem]; done)|refine gB (by rfl) (by rfl) (fun h => ?_) (fun h => ?_) <;> (try simp only [hsX, reduceCtorEq] at h))|((with_reducible show Awp _ _ (Code.region _ _ _) _ _); first|refine rK (by repeat constructor) (fun K hK => ?_)|(refine dK (by kernel_rfl) (by repeat constructor) (fun K hK => ?_)))) <;> simp (maxSteps := 2000000) (disch := omega) only [go_sem, ↓reduceIte, Nat.reduceEqDiff, Nat.reduceAdd, Nat.reduceLT, Nat.reduceLeDiff, Nat.reduceSub, tWithin, tSpl, tPi, tIsEl, tFs, sr_len, sr_load, after_rcS])|((with_reducible show Awp _ _ (Code.cond _ _ _) _ _); refine aC rfl (fun h => ?_) (fun h => ?_) <;> (try simp only [hsX, reduceCtorEq] at h))|((with_reducible first|refine aK ?_|refine aR ?_); simp only [nx])|((with_reducible refine aE ?_); simp only [nx, ne_eq, not_false_eq_true, Nat.reduceEqDiff, reduceCtorEq]; try ((repeat ((fail_if_success refine hK _ ?_); clear hK K)); refine hK _ ?_; clear hK K))|((with_reducible first|show List.all _ _ = true|show lendOk _ _ = true); rfl)|omega|((with_reducible first|show ¬ _|show _ → _); intro h; first|contradiction|cases h; done|skip)
  all_goals (try (first|refine fK ?_|refine fM ?_; repeat clear hK))
  · rw [drop_cons (d := []) (by omega), ip_no (eOk_no2 h)] at hv
    exact fin_q rfl rfl (q_none h45 (by rw [hps]; exact hv.symm))
  · rename_i h1 h2
    rw [drop_cons (d := []) (by omega), ip_yes (eOk_yes h2 h)] at hv
    refine ⟨(i + 1, orB x (piN (ps.getD i []))), ⟨by simp only; omega, hv⟩, by simp only; omega, ?_⟩
    simp [-List.getD_eq_getElem?_getD, -List.length_take, Le, leFr, ASt.at, keepFr, updAll, upd_zero, upd_succ, orB]
  · rename_i h1 h2
    rw [drop_cons (d := []) (by omega), ip_no (eOk_no1 h2)] at hv
    exact fin_q rfl rfl (q_none h45 (by rw [hps]; exact hv.symm))
  · rw [List.drop_of_length_le (by omega), ipV] at hv
    exact fin_q rfl rfl (q_bad h45 (by rw [hps]; exact hv.symm) h)
  · rw [List.drop_of_length_le (by omega), ipV] at hv
    exact fin_q rfl rfl (q_some hn h45 (by rw [hps]; exact hv.symm) h)
theorem ps_nil_no {n x : Int} {p : List UInt8} (h : eOk n p = false) : psV n [] p x = none := by rw [psV, h]; rfl
theorem ps_nil_yes {n x : Int} {p : List UInt8} (h : eOk n p = true) : psV n [] p x = some (orB x (piN p)) := by rw [psV, if_pos h]
theorem ps_c_no {n x : Int} {p s : List UInt8} {b : UInt8} (hb : b = 44) (h : eOk n p = false) : psV n (b :: s) p x = none := by rw [psV, if_pos hb, h]; rfl
theorem ps_c_yes {n x : Int} {p s : List UInt8} {b : UInt8} (hb : b = 44) (h : eOk n p = true) : psV n (b :: s) p x = psV n s [] (orB x (piN p)) := by rw [psV, if_pos hb, if_pos h]
theorem ps_b {n x : Int} {p s : List UInt8} {b : UInt8} (hb : ¬ b = 44) : psV n (b :: s) p x = psV n s (p ++ [b]) x := by rw [psV, if_neg hb]
theorem byte_44 {b : UInt8} (h : (b.toNat : Int) = 44) : b = 44 := by
  have h' : b.toNat = 44 := by omega
  rw [← UInt8.toNat_inj, h']; rfl
theorem byte_n44 {b : UInt8} (h : ¬ (b.toNat : Int) = 44) : ¬ b = 44 := fun e => h (by subst e; rfl)
theorem cut1 {l : List UInt8} {i : Nat} (h : i < l.length) : (l.drop i).take (i + 1 - i) = [l.getD i 0] := by
  rw [Nat.add_sub_cancel_left, List.drop_eq_getElem_cons h, List.getD_eq_getElem?_getD, List.getElem?_eq_getElem h]; rfl
theorem specPs_ok : Fits Tryd.prog 14 tPst := by
  refine ⟨callable_of Tryd.func14 (by kernel_rfl) rfl, ?_⟩
  intro args p out Ho h hp
  unfold tPst at h
  split at h <;> cases h
  rename_i n s
  refine ⟨acall_by (env_ok (env := [(20, tWithin), (34, tPi), (7, tFs)]) (by simp only [fmA, and_true]; exact ⟨specIn_ok, specPi_ok, specFs_ok⟩)) Tryd.func14 rfl rfl rfl rfl rfl ?_, rfl, rfl⟩
  intro hlen c hc hX
  simp only [lensOk, AV.lenOk, true_and, and_true] at hlen
  simp only [Tryd.ntmps14, Tryd.results14, lsA, List.replicate, Nat.reduceAdd, Nat.reduceSub]
  obtain ⟨l, rfl⟩ := str_list s
  have hsz : l.length ≤ 1048576 := by rw [size_bs] at hp; exact hp
  show Awp _ _ _ (Fin _ _ (.tu [.i (qN n l), .b (qB n l)]) []) _
  repeat' first | ((with_reducible show aol _ _ _ _ _); first|(refine gF (by rfl) ?_ ?_; focus simp only [go_sem]; done)|(refine gU (by rfl) ?_ ?_; focus simp only [go_sem]; done))|((with_reducible refine hK _ ?_); clear hK K; try simp only [nx])|(with_reducible first|refine aS fun K hK => ?_|refine aB ?_|apply And.intro|exact True.intro)|((first|((with_reducible show aol _ _ _ _ _); try first|(refine gT (by rfl) ?_ ?_; focus simp only [go_sem]; done)|refine gB (by rfl) (by rfl) (fun h => ?_) (fun h => ?_) <;> (try simp only [hsX, reduceCtorEq] at h))|((with_reducible show Awp _ _ (Code.region _ _ _) _ _); first|refine rK (by repeat constructor) (fun K hK => ?_)|(refine dK (by kernel_rfl) (by repeat constructor) (fun K hK => ?_)))) <;> simp (maxSteps := 2000000) (disch := omega) only [go_sem, ↓reduceIte, Nat.reduceEqDiff, Nat.reduceAdd, Nat.reduceLT, Nat.reduceLeDiff, Nat.reduceSub, tWithin, tPi, tFs])|((with_reducible show Awp _ _ (Code.cond _ _ _) _ _); refine aC rfl (fun h => ?_) (fun h => ?_) <;> (try simp only [hsX, reduceCtorEq] at h))|((with_reducible first|refine aK ?_|refine aR ?_); simp only [nx])|((with_reducible refine aE ?_); simp only [nx, ne_eq, not_false_eq_true, Nat.reduceEqDiff, reduceCtorEq]; try ((repeat ((fail_if_success refine hK _ ?_); clear hK K)); refine hK _ ?_; clear hK K))|((with_reducible first|show List.all _ _ = true|show lendOk _ _ = true); rfl)|omega|((with_reducible first|show ¬ _|show _ → _); intro h; first|contradiction|cases h; done|skip)
  all_goals (try (first|refine fK ?_|refine fM ?_; repeat clear hK))
  · exact fin_q rfl rfl (q_out (by assumption))
  rename_i hn
  by_cases h45 : l = [45]
  · refine awp_for (fun s (i : Nat) => s.at [0, 1, 6, 7, 8] [] s.hp) (fun i => True) (fun i => 0) 0 trivial ?_ ?_
    · simp [-List.getD_eq_getElem?_getD, -List.length_take, Le, leFr, ASt.at, keepFr, updAll, upd_zero, upd_succ]
    rintro i _
    simp only [ASt.at, keepFr, updAll, upd_zero, upd_succ, lgA, Nat.reduceEqDiff, Nat.reduceAdd, ↓reduceIte, eq_self]
    have hz : fsV n 0 = [45] := fsV_z (by assumption) ⟨Int.le_refl 0, Int.pow_pos (by decide)⟩ rfl
    repeat' first | ((with_reducible show aol _ _ _ _ _); first|(refine gF (by rfl) ?_ ?_; focus simp only [go_sem]; done)|(refine gU (by rfl) ?_ ?_; focus simp only [go_sem]; done))|((with_reducible refine hK _ ?_); clear hK K; try simp only [nx])|(with_reducible first|refine aS fun K hK => ?_|refine aB ?_|apply And.intro|exact True.intro)|((first|((with_reducible show aol _ _ _ _ _); try first|(refine gT (by rfl) ?_ ?_; focus simp only [go_sem]; done)|refine gB (by rfl) (by rfl) (fun h => ?_) (fun h => ?_) <;> (try simp only [hsX, reduceCtorEq] at h))|((with_reducible show Awp _ _ (Code.region _ _ _) _ _); first|refine rK (by repeat constructor) (fun K hK => ?_)|(refine dK (by kernel_rfl) (by repeat constructor) (fun K hK => ?_)))) <;> simp (maxSteps := 2000000) (disch := omega) only [go_sem, ↓reduceIte, Nat.reduceEqDiff, Nat.reduceAdd, Nat.reduceLT, Nat.reduceLeDiff, Nat.reduceSub, tWithin, tPi, tFs, h45, hz])|((with_reducible show Awp _ _ (Code.cond _ _ _) _ _); refine aC rfl (fun h => ?_) (fun h => ?_) <;> (try simp only [hsX, reduceCtorEq] at h))|((with_reducible first|refine aK ?_|refine aR ?_); simp only [nx])|((with_reducible refine aE ?_); simp only [nx, ne_eq, not_false_eq_true, Nat.reduceEqDiff, reduceCtorEq]; try ((repeat ((fail_if_success refine hK _ ?_); clear hK K)); refine hK _ ?_; clear hK K))|((with_reducible first|show List.all _ _ = true|show lendOk _ _ = true); rfl)|omega|((with_reducible first|show ¬ _|show _ → _); intro h; first|contradiction|cases h; done|skip)
    all_goals (try (first|refine fK ?_|refine fM ?_; repeat clear hK))
    exact fin_q rfl rfl (q_dash (by assumption) h45)
  refine awp_for (fun s (i : Nat × List UInt8 × Int) => s.at [0, 1] [(6, .i i.2.2), (7, .v (.string ⟨List.toArray i.2.1⟩)), (8, .i i.1)] s.hp)
    (fun i => (i.1 ≤ l.length ∧ i.2.1.length ≤ i.1 ∧ psV n (l.drop i.1) i.2.1 i.2.2 = psV n l [] 0) ∨ (i.1 = l.length + 1 ∧ psV n l [] 0 = some i.2.2)) (fun i => l.length + 1 - i.1) (0, [], 0) (.inl ⟨Nat.zero_le _, Nat.le_refl _, rfl⟩) ?_ ?_
  · simp [-List.getD_eq_getElem?_getD, -List.length_take, Le, leFr, ASt.at, keepFr, updAll, upd_zero, upd_succ]
  rintro ⟨i, p, x⟩ hv
  simp only at hv
  simp only [ASt.at, keepFr, updAll, upd_zero, upd_succ, lgA, Nat.reduceEqDiff, Nat.reduceAdd, ↓reduceIte, eq_self]
  have hi : i ≤ l.length + 1 := by omega
  have hs1 : ((i : Int) + 1).toNat = i + 1 := by omega
  have hs2 := fun h => cut1 (l := l) (i := i) h
  have hb := byte_lt (l.getD i 0)
  have hpl : p.length ≤ 1048576 ∨ i = l.length + 1 := by omega
  repeat' first | ((with_reducible show aol _ _ _ _ _); first|(refine gF (by rfl) ?_ ?_; focus simp only [go_sem]; done)|(refine gU (by rfl) ?_ ?_; focus simp only [go_sem]; done))|((with_reducible refine hK _ ?_); clear hK K; try simp only [nx])|(with_reducible first|refine aS fun K hK => ?_|refine aB ?_|apply And.intro|exact True.intro)|((first|((with_reducible show aol _ _ _ _ _); try first|(refine gT (by rfl) ?_ ?_; focus simp only [go_sem]; done)|refine gB (by rfl) (by rfl) (fun h => ?_) (fun h => ?_) <;> (try simp only [hsX, reduceCtorEq] at h))|((with_reducible show Awp _ _ (Code.region _ _ _) _ _); first|refine rK (by repeat constructor) (fun K hK => ?_)|(refine dK (by kernel_rfl) (by repeat constructor) (fun K hK => ?_)))) <;> simp (maxSteps := 2000000) (disch := omega) only [go_sem, ↓reduceIte, Nat.reduceEqDiff, Nat.reduceAdd, Nat.reduceLT, Nat.reduceLeDiff, Nat.reduceSub, tWithin, tPi, tFs, h45, hs1, hs2])|((with_reducible show Awp _ _ (Code.cond _ _ _) _ _); refine aC rfl (fun h => ?_) (fun h => ?_) <;> (try simp only [hsX, reduceCtorEq] at h))|((with_reducible first|refine aK ?_|refine aR ?_); simp only [nx])|((with_reducible refine aE ?_); simp only [nx, ne_eq, not_false_eq_true, Nat.reduceEqDiff, reduceCtorEq]; try ((repeat ((fail_if_success refine hK _ ?_); clear hK K)); refine hK _ ?_; clear hK K))|((with_reducible first|show List.all _ _ = true|show lendOk _ _ = true); rfl)|omega|((with_reducible first|show ¬ _|show _ → _); intro h; first|contradiction|cases h; done|skip)
  all_goals (try (first|refine fK ?_|refine fM ?_; repeat clear hK))
  · obtain ⟨_, hp1, hv⟩ := hv.resolve_right (by omega)
    rw [drop_cons (d := 0) (by omega), ps_b (byte_n44 h)] at hv
    refine ⟨(i + 1, p ++ [l.getD i 0], x), .inl ⟨by simp only; omega, by simp only [List.length_append, List.length_cons, List.length_nil]; omega, hv⟩, by simp only; omega, ?_⟩
    simp [-List.getD_eq_getElem?_getD, -List.length_take, Le, leFr, ASt.at, keepFr, updAll, upd_zero, upd_succ]
  · rename_i h3 h2 h1
    obtain ⟨_, hp1, hv⟩ := hv.resolve_right (by omega)
    rw [drop_cons (d := 0) (by omega), ps_c_no (byte_44 h2) (eOk_no2 h), psV_ip] at hv
    exact fin_q rfl rfl (q_none h45 hv.symm)
  · rename_i h3 h2 h1
    obtain ⟨_, hp1, hv⟩ := hv.resolve_right (by omega)
    rw [drop_cons (d := 0) (by omega), ps_c_yes (byte_44 h2) (eOk_yes h1 h)] at hv
    refine ⟨(i + 1, [], orB x (piN p)), .inl ⟨by simp only; omega, by simp, hv⟩, by simp only; omega, ?_⟩
    simp [-List.getD_eq_getElem?_getD, -List.length_take, Le, leFr, ASt.at, keepFr, updAll, upd_zero, upd_succ, orB]
  · rename_i h3 h2 h1
    obtain ⟨_, hp1, hv⟩ := hv.resolve_right (by omega)
    rw [drop_cons (d := 0) (by omega), ps_c_no (byte_44 h2) (eOk_no1 h1), psV_ip] at hv
    exact fin_q rfl rfl (q_none h45 hv.symm)
  · obtain ⟨_, hp1, hv⟩ := hv.resolve_right (by omega)
    rw [List.drop_of_length_le (by omega), ps_nil_no (eOk_no2 h), psV_ip] at hv
    exact fin_q rfl rfl (q_none h45 hv.symm)
  · rename_i h2 h1
    obtain ⟨_, hp1, hv⟩ := hv.resolve_right (by omega)
    rw [List.drop_of_length_le (by omega), ps_nil_yes (eOk_yes h1 h)] at hv
    refine ⟨(i + 1, [], orB x (piN p)), .inr ⟨by simp only; omega, hv.symm⟩, by simp only; omega, ?_⟩
    simp [-List.getD_eq_getElem?_getD, -List.length_take, Le, leFr, ASt.at, keepFr, updAll, upd_zero, upd_succ, orB]
  · rename_i h2 h1
    obtain ⟨_, hp1, hv⟩ := hv.resolve_right (by omega)
    rw [List.drop_of_length_le (by omega), ps_nil_no (eOk_no1 h1), psV_ip] at hv
    exact fin_q rfl rfl (q_none h45 hv.symm)
  all_goals obtain ⟨_, hv⟩ := hv.resolve_left (by omega)
  all_goals rw [psV_ip] at hv
  · exact fin_q rfl rfl (q_bad h45 hv h)
  · exact fin_q rfl rfl (q_some (by assumption) h45 hv h)
def tTrIS : Tab
  | [.i _, .v (.string _)] => some (True, .b true, [])
  | _ => none
theorem exactPs_ok : Fits Tryd.prog 5 tTrIS := by
  refine ⟨callable_of Tryd.func5 (by kernel_rfl) rfl, ?_⟩
  intro args p out Ho h hp
  unfold tTrIS at h
  split at h <;> cases h
  rename_i n s
  refine ⟨acall_by (env_ok (env := [(14, tPst), (15, tPst)]) (by simp only [fmA, and_true]; exact ⟨specPs_ok, implPs_ok⟩)) Tryd.func5 rfl rfl rfl rfl rfl ?_, rfl, rfl⟩
  intro hlen c hc hX
  simp only [lensOk, AV.lenOk, true_and, and_true] at hlen
  simp only [Tryd.ntmps5, Tryd.results5, lsA, List.replicate, Nat.reduceAdd, Nat.reduceSub]
  obtain ⟨l, rfl⟩ := str_list s
  repeat' first | ((with_reducible show aol _ _ _ _ _); first|(refine gF (by rfl) ?_ ?_; focus simp only [go_sem]; done)|(refine gU (by rfl) ?_ ?_; focus simp only [go_sem]; done))|((with_reducible refine hK _ ?_); clear hK K; try simp only [nx])|(with_reducible first|refine aS fun K hK => ?_|refine aB ?_|apply And.intro|exact True.intro)|((first|((with_reducible show aol _ _ _ _ _); try first|(refine gT (by rfl) ?_ ?_; focus simp only [go_sem]; done)|refine gB (by rfl) (by rfl) (fun h => ?_) (fun h => ?_) <;> (try simp only [hsX, reduceCtorEq] at h))|((with_reducible show Awp _ _ (Code.region _ _ _) _ _); first|refine rK (by repeat constructor) (fun K hK => ?_)|(refine dK (by kernel_rfl) (by repeat constructor) (fun K hK => ?_)))) <;> simp (maxSteps := 2000000) (disch := omega) only [go_sem, ↓reduceIte, Nat.reduceEqDiff, Nat.reduceAdd, Nat.reduceLT, Nat.reduceLeDiff, Nat.reduceSub, tPst])|((with_reducible show Awp _ _ (Code.cond _ _ _) _ _); refine aC rfl (fun h => ?_) (fun h => ?_) <;> (try simp only [hsX, reduceCtorEq] at h))|((with_reducible first|refine aK ?_|refine aR ?_); simp only [nx])|((with_reducible refine aE ?_); simp only [nx, ne_eq, not_false_eq_true, Nat.reduceEqDiff, reduceCtorEq]; try ((repeat ((fail_if_success refine hK _ ?_); clear hK K)); refine hK _ ?_; clear hK K))|((with_reducible first|show List.all _ _ = true|show lendOk _ _ = true); rfl)|omega|((with_reducible first|show ¬ _|show _ → _); intro h; first|contradiction|cases h; done|skip)
  all_goals (try (first|refine fK ?_|refine fM ?_; repeat clear hK))
  all_goals exact fin_tmp rfl rfl
end Go.Proofs.YthoionlldmfpiaaDoor
