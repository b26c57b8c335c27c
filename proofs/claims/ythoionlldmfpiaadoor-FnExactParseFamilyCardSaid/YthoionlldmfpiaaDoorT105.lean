import Derived.Test.YthoionlldmfpiaaDoorT104
import Derived.Test.YthoionlldmfpiaaDoorHs
import Derived.Test.YthoionlldmfpiaaDoorT10
set_option linter.unusedSimpArgs false
set_option linter.unusedVariables false
set_option maxHeartbeats 2000000
namespace Go.Proofs.YthoionlldmfpiaaDoor
open Go Go.Ab
attribute [local irreducible] aol
def ipF (n : Int) : List (List UInt8) → List Int → Option (List Int)
  | [], L => some L
  | p :: ps, L => if qB n p then ipF n ps (L ++ [qN n p]) else none
def psF (n : Int) : List UInt8 → List UInt8 → List Int → Option (List Int)
  | [], p, L => if qB n p then some (L ++ [qN n p]) else none
  | b :: s, p, L => if b = 124 then (if qB n p then psF n s [] (L ++ [qN n p]) else none) else psF n s (p ++ [b]) L
theorem psF_split (n : Int) : ∀ (s p : List UInt8) (L : List Int), psF n s p L = ipF n (hd p (splitC 124 s)) L
  | [], p, L => by simp [psF, splitC, hd, ipF]
  | b :: s, p, L => by
    rw [psF, splitC]
    split
    · have := psF_split n s [] (L ++ [qN n p])
      have h0 := (splitC_len 124 s).2
      cases hc : splitC 124 s with
      | nil => rw [hc] at h0; simp at h0
      | cons q ps =>
        rw [hc] at this
        simp only [hd, List.append_nil, ipF, List.nil_append] at this ⊢
        rw [this]
    · rw [psF_split n s (p ++ [b]) L]
      have h0 := (splitC_len 124 s).2
      cases hc : splitC 124 s with
      | nil => rw [hc] at h0; simp at h0
      | cons q ps => simp [hd]
theorem psF_ip (n : Int) (s : List UInt8) (L : List Int) : psF n s [] L = ipF n (splitC 124 s) L := by
  rw [psF_split]
  have h0 := (splitC_len 124 s).2
  cases hc : splitC 124 s with
  | nil => rw [hc] at h0; simp at h0
  | cons q ps => simp [hd]
def pfV (n : Int) (s : List UInt8) : Option (List Int) :=
  if inR n 0 6 then (if s = [110, 111, 110, 101] then some [] else match ipF n (splitC 124 s) [] with
    | none => none
    | some L => if famV n L then some L else none) else none
def pfB (n : Int) (s : List UInt8) : Bool := (pfV n s).isSome
def pfL (n : Int) (s : List UInt8) : List Int := (pfV n s).getD []
def pfN (n : Int) (s : List UInt8) : Int := if pfB n s then n else 0
theorem pf_of {n : Int} {s : List UInt8} {L : List Int} (h : pfV n s = some L) : pfN n s = n ∧ pfL n s = L ∧ pfB n s = true := by
  unfold pfN pfB pfL; rw [h]; exact ⟨rfl, rfl, rfl⟩
theorem pf_no {n : Int} {s : List UInt8} (h : pfV n s = none) : pfN n s = 0 ∧ pfL n s = [] ∧ pfB n s = false := by
  unfold pfN pfB pfL; rw [h]; exact ⟨rfl, rfl, rfl⟩
theorem pf_out {n : Int} {s : List UInt8} (h : ¬ (0 ≤ n ∧ n ≤ 6)) : pfV n s = none := by rw [← inR_not] at h; unfold pfV; rw [h]; rfl
theorem pf_zero {n : Int} {s : List UInt8} (h : 0 ≤ n ∧ n ≤ 6) (h1 : s = [110, 111, 110, 101]) : pfV n s = some [] := by rw [← inR_iff] at h; unfold pfV; rw [if_pos h, if_pos h1]
theorem pf_none {n : Int} {s : List UInt8} (h1 : ¬ s = [110, 111, 110, 101]) (h2 : ipF n (splitC 124 s) [] = none) : pfV n s = none := by
  unfold pfV; rw [if_neg h1, h2]; split <;> rfl
theorem pf_some {n : Int} {s : List UInt8} {L : List Int} (h1 : ¬ s = [110, 111, 110, 101]) (h2 : ipF n (splitC 124 s) [] = some L) (h3 : famV n L = true) : pfV n s = some L := by
  have h := (famV_iff.1 h3).1
  rw [← inR_iff] at h; unfold pfV; rw [if_pos h, if_neg h1, h2]; simp only [h3, if_true]
theorem pf_bad {n : Int} {s : List UInt8} {L : List Int} (h1 : ¬ s = [110, 111, 110, 101]) (h2 : ipF n (splitC 124 s) [] = some L) (h3 : famV n L = false) : pfV n s = none := by
  unfold pfV; rw [if_neg h1, h2]; simp only [h3]; split <;> rfl
theorem ipF_no {n : Int} {L : List Int} {p : List UInt8} {ps : List (List UInt8)} (h : qB n p = false) : ipF n (p :: ps) L = none := by rw [ipF, h]; rfl
theorem ipF_yes {n : Int} {L : List Int} {p : List UInt8} {ps : List (List UInt8)} (h : qB n p = true) : ipF n (p :: ps) L = ipF n ps (L ++ [qN n p]) := by rw [ipF, if_pos h]
theorem psF_nil_no {n : Int} {L : List Int} {p : List UInt8} (h : qB n p = false) : psF n [] p L = none := by rw [psF, h]; rfl
theorem psF_nil_yes {n : Int} {L : List Int} {p : List UInt8} (h : qB n p = true) : psF n [] p L = some (L ++ [qN n p]) := by rw [psF, if_pos h]
theorem psF_c_no {n : Int} {L : List Int} {p s : List UInt8} {b : UInt8} (hb : b = 124) (h : qB n p = false) : psF n (b :: s) p L = none := by rw [psF, if_pos hb, h]; rfl
theorem psF_c_yes {n : Int} {L : List Int} {p s : List UInt8} {b : UInt8} (hb : b = 124) (h : qB n p = true) : psF n (b :: s) p L = psF n s [] (L ++ [qN n p]) := by rw [psF, if_pos hb, if_pos h]
theorem psF_b {n : Int} {L : List Int} {p s : List UInt8} {b : UInt8} (hb : ¬ b = 124) : psF n (b :: s) p L = psF n s (p ++ [b]) L := by rw [psF, if_neg hb]
theorem pfL_len (n : Int) (s : List UInt8) : (pfL n s).length ≤ 64 := by
  unfold pfL
  cases h : pfV n s with
  | none => simp
  | some L =>
    unfold pfV at h
    split at h
    · split at h
      · cases h; simp
      · split at h
        · cases h
        · split at h
          · rename_i hf
            cases h
            exact fam_len hf
          · cases h
    · cases h
theorem byte_124 {b : UInt8} (h : (b.toNat : Int) = 124) : b = 124 := by
  have h' : b.toNat = 124 := by omega
  rw [← UInt8.toNat_inj, h']; rfl
theorem byte_n124 {b : UInt8} (h : ¬ (b.toNat : Int) = 124) : ¬ b = 124 := fun e => h (by subst e; rfl)
def tPf : Tab
  | [.i n, .v (.string s)] => some (s.size ≤ 1048576, .tu [.ag [.i (pfN n s.data.toList), .own 0], .b (pfB n s.data.toList)], [.row .i64 3 (pfL n s.data.toList)])
  | _ => none
theorem fin_pf {C : Cfg} {t u : Tmp} {j b : Nat} {T T' : TypeId} {k : IntKind} {E : TypeId} {n : Int} {l : List UInt8} {L : List Int} {d : TD} {s : ASt} (hT : C.Γ T = some d) (ha : d.agg = true) (hs : d.size = 2) (h : nth s.fr t = .bp b 0)
    (hb : s.hp[b]? = some (.box T' [.i n, .own j])) (hh : s.hp[j]? = some (.row k E L)) (hu : nth s.fr u = .b true) (e : pfV n l = some L) : FinS C [.cell t T, .tmp u] (.tu [.ag [.i (pfN n l), .own 0], .b (pfB n l)]) [.row k E (pfL n l)] s := by
  obtain ⟨e1, e2, e3⟩ := pf_of e
  rw [e1, e2, e3]; exact fin_pairb hT ha hs h hb hh hu
theorem fin_pf0 {C : Cfg} {t u : Tmp} {b : Nat} {T T' : TypeId} {k : IntKind} {E : TypeId} {n : Int} {l : List UInt8} {d : TD} {s : ASt} (hT : C.Γ T = some d) (ha : d.agg = true) (hs : d.size = 2) (h : nth s.fr t = .bp b 0)
    (hb : s.hp[b]? = some (.box T' [.i 0, .nl])) (hu : nth s.fr u = .b false) (e : pfV n l = none) : FinS C [.cell t T, .tmp u] (.tu [.ag [.i (pfN n l), .own 0], .b (pfB n l)]) [.row k E (pfL n l)] s := by
  obtain ⟨e1, e2, e3⟩ := pf_no e
  rw [e1, e2, e3]; exact fin_pairb_nl hT ha hs h hb hu
theorem fin_pf1 {C : Cfg} {t u : Tmp} {b : Nat} {T T' : TypeId} {k : IntKind} {E : TypeId} {n : Int} {l : List UInt8} {d : TD} {s : ASt} (hT : C.Γ T = some d) (ha : d.agg = true) (hs : d.size = 2) (h : nth s.fr t = .bp b 0)
    (hb : s.hp[b]? = some (.box T' [.i n, .nl])) (hu : nth s.fr u = .b true) (e : pfV n l = some []) : FinS C [.cell t T, .tmp u] (.tu [.ag [.i (pfN n l), .own 0], .b (pfB n l)]) [.row k E (pfL n l)] s := by
  obtain ⟨e1, e2, e3⟩ := pf_of e
  rw [e1, e2, e3]; exact fin_pairb_nl hT ha hs h hb hu
theorem implPf_ok : Fits Tryd.prog 17 tPf := by
  refine ⟨callable_of Tryd.func17 (by kernel_rfl) rfl, ?_⟩
  intro args p out Ho h hp
  unfold tPf at h
  split at h <;> cases h
  rename_i n s
  refine ⟨acall_by (env_ok (env := [(24, tWithin), (35, (tSpl 9)), (15, tPst), (31, tIsF)]) (by simp only [fmA, and_true]; exact ⟨within_ok, cSplit_ok, implPs_ok, implIsF_ok⟩)) Tryd.func17 rfl rfl rfl rfl rfl ?_, rfl, rfl⟩
  intro hlen c hc hX
  simp only [lensOk, AV.lenOk, true_and, and_true] at hlen
  simp only [Tryd.ntmps17, Tryd.results17, lsA, List.replicate, Nat.reduceAdd, Nat.reduceSub]
  obtain ⟨l, rfl⟩ := str_list s
  have hsz : l.length ≤ 1048576 := by rw [size_bs] at hp; exact hp
  show Awp _ _ _ (Fin _ _ (.tu [.ag [.i (pfN n l), .own 0], .b (pfB n l)]) [.row .i64 3 (pfL n l)]) _
  have hpl := (splitC_len 124 l).1
  repeat' first | ((with_reducible show aol _ _ _ _ _); first|(refine gF (by rfl) ?_ ?_; focus simp only [go_sem]; done)|(refine gU (by rfl) ?_ ?_; focus simp only [go_sem]; done))|((with_reducible refine hK _ ?_); clear hK K; try simp only [nx])|(with_reducible first|refine aS fun K hK => ?_|refine aB ?_|apply And.intro|exact True.intro)|((first|((with_reducible show aol _ _ _ _ _); try first|(refine gT (by rfl) ?_ ?_; focus simp only [go_sem]; done)|refine gB (by rfl) (by rfl) (fun h => ?_) (fun h => ?_) <;> (try simp only [hsX, reduceCtorEq] at h))|((with_reducible show Awp _ _ (Code.region _ _ _) _ _); first|refine rK (by repeat constructor) (fun K hK => ?_)|(refine dK (by kernel_rfl) (by repeat constructor) (fun K hK => ?_)))) <;> simp (maxSteps := 2000000) (disch := omega) only [go_sem, ↓reduceIte, Nat.reduceEqDiff, Nat.reduceAdd, Nat.reduceLT, Nat.reduceLeDiff, Nat.reduceSub, tWithin, tSpl, tPst, tIsF, sr_len, after_rcS])|((with_reducible show Awp _ _ (Code.cond _ _ _) _ _); refine aC rfl (fun h => ?_) (fun h => ?_) <;> (try simp only [hsX, reduceCtorEq] at h))|((with_reducible first|refine aK ?_|refine aR ?_); simp only [nx])|((with_reducible refine aE ?_); simp only [nx, ne_eq, not_false_eq_true, Nat.reduceEqDiff, reduceCtorEq]; try ((repeat ((fail_if_success refine hK _ ?_); clear hK K)); refine hK _ ?_; clear hK K))|((with_reducible first|show List.all _ _ = true|show lendOk _ _ = true); rfl)|omega|((with_reducible first|show ¬ _|show _ → _); intro h; first|contradiction|cases h; done|skip)
  all_goals (try (first|refine fK ?_|refine fM ?_; repeat clear hK))
  · exact fin_pf0 (d := tPair) rfl rfl rfl rfl rfl rfl (pf_out (by assumption))
  · exact fin_pf1 (d := tPair) rfl rfl rfl rfl rfl rfl (pf_zero (by assumption) (by assumption))
  rename_i hn
  have h0 := h
  generalize hps : splitC 124 l = ps at *
  have hmem : ∀ x ∈ ps, x.length ≤ 1048576 := fun x hx => by
    have := splitC_mem 124 l x (by rw [hps]; exact hx); omega
  refine awp_wk (wk_cell .i64 3 (b := 1) (j := 1) rfl rfl (by simp)) ?_
  refine awp_forR 0 hX (fun s (i : Nat × List Int) => s.at [0, 1, 4, 6, 21, 22] [(23, .i i.1)] [.box 29 [.i 0, .nl], .box 29 [.i n, .own 3], .rc 9 1 (sr ps), .row .i64 3 i.2])
    (fun i => i.1 ≤ ps.length ∧ i.2.length ≤ i.1 ∧ ipF n (ps.drop i.1) i.2 = ipF n ps []) (fun i => ps.length - i.1) (0, []) ⟨Nat.zero_le _, Nat.le_refl _, rfl⟩ ?_ ?_
  · exact ⟨[0, 1, 2, 3], rfl, rfl, by simp [-List.getD_eq_getElem?_getD, -List.length_take, gdA, leFr, ASt.at, keepFr, updAll, upd_zero, upd_succ, AV.rnb, AV.rnb0], by simp [-List.getD_eq_getElem?_getD, gdA, ASt.at, AO.rnb, AV.rnb0, upd_k0, upd_k1, upd_k2, upd_k3], rfl, rfl⟩
  rintro ⟨i, L⟩ ⟨hi, hl, hv⟩
  simp only at hi hl hv
  simp only [ASt.at, keepFr, updAll, upd_zero, upd_succ, lgA, Nat.reduceEqDiff, Nat.reduceAdd, ↓reduceIte, eq_self]
  have hsm : i < ps.length → (ps.getD i []).length ≤ 1048576 := fun h => by
    rw [List.getD_eq_getElem?_getD, List.getElem?_eq_getElem h]; exact hmem _ (List.getElem_mem _)
  repeat' first | ((with_reducible show aol _ _ _ _ _); first|(refine gF (by rfl) ?_ ?_; focus simp only [go_sem]; done)|(refine gU (by rfl) ?_ ?_; focus simp only [go_sem]; done))|((with_reducible refine hK _ ?_); clear hK K; try simp only [nx])|(with_reducible first|refine aS fun K hK => ?_|refine aB ?_|apply And.intro|exact True.intro)|((first|((with_reducible show aol _ _ _ _ _); try first|(refine gT (by rfl) ?_ ?_; focus simp only [go_sem]; done)|refine gB (by rfl) (by rfl) (fun h => ?_) (fun h => ?_) <;> (try simp only [hsX, reduceCtorEq] at h))|((with_reducible show Awp _ _ (Code.region _ _ _) _ _); first|refine rK (by repeat constructor) (fun K hK => ?_)|(refine dK (by kernel_rfl) (by repeat constructor) (fun K hK => ?_)))) <;> simp (maxSteps := 2000000) (disch := omega) only [go_sem, ↓reduceIte, Nat.reduceEqDiff, Nat.reduceAdd, Nat.reduceLT, Nat.reduceLeDiff, Nat.reduceSub, tWithin, tSpl, tPst, tIsF, sr_len, sr_load, after_rcS])|((with_reducible show Awp _ _ (Code.cond _ _ _) _ _); refine aC rfl (fun h => ?_) (fun h => ?_) <;> (try simp only [hsX, reduceCtorEq] at h))|((with_reducible first|refine aK ?_|refine aR ?_); simp only [nx])|((with_reducible refine aE ?_); simp only [nx, ne_eq, not_false_eq_true, Nat.reduceEqDiff, reduceCtorEq]; try ((repeat ((fail_if_success refine hK _ ?_); clear hK K)); refine hK _ ?_; clear hK K))|((with_reducible first|show List.all _ _ = true|show lendOk _ _ = true); rfl)|omega|((with_reducible first|show ¬ _|show _ → _); intro h; first|contradiction|cases h; done|skip)
  all_goals (try (first|refine fK ?_|refine fM ?_; repeat clear hK))
  · rw [drop_cons (d := []) (by omega), ipF_no h] at hv
    exact fin_pf0 (d := tPair) rfl rfl rfl rfl rfl rfl (pf_none h0 (by rw [hps]; exact hv.symm))
  · rw [drop_cons (d := []) (by omega), ipF_yes h] at hv
    refine ⟨(i + 1, L ++ [qN n (ps.getD i [])]), ⟨by simp only; omega, by simp only [List.length_append, List.length_cons, List.length_nil]; omega, hv⟩, by simp only; omega, ?_⟩
    exact ⟨[0, 1, 2, 5], rfl, rfl, by simp [-List.getD_eq_getElem?_getD, -List.length_take, gdA, leFr, ASt.at, keepFr, updAll, upd_zero, upd_succ, AV.rnb, AV.rnb0], by simp [-List.getD_eq_getElem?_getD, gdA, ASt.at, AO.rnb, AV.rnb0, upd_k0, upd_k1, upd_k2, upd_k3], rfl, rfl⟩
  · rw [List.drop_of_length_le (by omega), ipF] at hv
    exact fin_pf0 (d := tPair) rfl rfl rfl rfl rfl rfl (pf_bad h0 (by rw [hps]; exact hv.symm) h)
  · rw [List.drop_of_length_le (by omega), ipF] at hv
    exact fin_pf (d := tPair) (j := 3) rfl rfl rfl rfl rfl rfl rfl (pf_some h0 (by rw [hps]; exact hv.symm) h)
theorem fam_nil (n : Int) : famV n [] = inR n 0 6 := by simp [famV, incB]
theorem specPf_ok : Fits Tryd.prog 16 tPf := by
  refine ⟨callable_of Tryd.func16 (by kernel_rfl) rfl, ?_⟩
  intro args p out Ho h hp
  unfold tPf at h
  split at h <;> cases h
  rename_i n s
  refine ⟨acall_by (env_ok (env := [(14, tPst), (29, tIsF)]) (by simp only [fmA, and_true]; exact ⟨specPs_ok, specIsF_ok⟩)) Tryd.func16 rfl rfl rfl rfl rfl ?_, rfl, rfl⟩
  intro hlen c hc hX
  simp only [lensOk, AV.lenOk, true_and, and_true] at hlen
  simp only [Tryd.ntmps16, Tryd.results16, lsA, List.replicate, Nat.reduceAdd, Nat.reduceSub]
  obtain ⟨l, rfl⟩ := str_list s
  have hsz : l.length ≤ 1048576 := by rw [size_bs] at hp; exact hp
  show Awp _ _ _ (Fin _ _ (.tu [.ag [.i (pfN n l), .own 0], .b (pfB n l)]) [.row .i64 3 (pfL n l)]) _
  repeat' first | ((with_reducible show aol _ _ _ _ _); first|(refine gF (by rfl) ?_ ?_; focus simp only [go_sem]; done)|(refine gU (by rfl) ?_ ?_; focus simp only [go_sem]; done))|((with_reducible refine hK _ ?_); clear hK K; try simp only [nx])|(with_reducible first|refine aS fun K hK => ?_|refine aB ?_|apply And.intro|exact True.intro)|((first|((with_reducible show aol _ _ _ _ _); try first|(refine gT (by rfl) ?_ ?_; focus simp only [go_sem]; done)|refine gB (by rfl) (by rfl) (fun h => ?_) (fun h => ?_) <;> (try simp only [hsX, reduceCtorEq] at h))|((with_reducible show Awp _ _ (Code.region _ _ _) _ _); first|refine rK (by repeat constructor) (fun K hK => ?_)|(refine dK (by kernel_rfl) (by repeat constructor) (fun K hK => ?_)))) <;> simp (maxSteps := 2000000) (disch := omega) only [go_sem, ↓reduceIte, Nat.reduceEqDiff, Nat.reduceAdd, Nat.reduceLT, Nat.reduceLeDiff, Nat.reduceSub, tPst, tIsF])|((with_reducible show Awp _ _ (Code.cond _ _ _) _ _); refine aC rfl (fun h => ?_) (fun h => ?_) <;> (try simp only [hsX, reduceCtorEq] at h))|((with_reducible first|refine aK ?_|refine aR ?_); simp only [nx])|((with_reducible refine aE ?_); simp only [nx, ne_eq, not_false_eq_true, Nat.reduceEqDiff, reduceCtorEq]; try ((repeat ((fail_if_success refine hK _ ?_); clear hK K)); refine hK _ ?_; clear hK K))|((with_reducible first|show List.all _ _ = true|show lendOk _ _ = true); rfl)|omega|((with_reducible first|show ¬ _|show _ → _); intro h; first|contradiction|cases h; done|skip)
  all_goals (try (first|refine fK ?_|refine fM ?_; repeat clear hK))
  by_cases h45 : l = [110, 111, 110, 101]
  · refine awp_for (fun s (i : Nat) => s.at [0, 1, 4, 6, 7, 8] [] s.hp) (fun i => True) (fun i => 0) 0 trivial ?_ ?_
    · simp [-List.getD_eq_getElem?_getD, -List.length_take, Le, leFr, ASt.at, keepFr, updAll, upd_zero, upd_succ]
    rintro i _
    simp only [ASt.at, keepFr, updAll, upd_zero, upd_succ, lgA, Nat.reduceEqDiff, Nat.reduceAdd, ↓reduceIte, eq_self]
    repeat' first | ((with_reducible show aol _ _ _ _ _); first|(refine gF (by rfl) ?_ ?_; focus simp only [go_sem]; done)|(refine gU (by rfl) ?_ ?_; focus simp only [go_sem]; done))|((with_reducible refine hK _ ?_); clear hK K; try simp only [nx])|(with_reducible first|refine aS fun K hK => ?_|refine aB ?_|apply And.intro|exact True.intro)|((first|((with_reducible show aol _ _ _ _ _); try first|(refine gT (by rfl) ?_ ?_; focus simp only [go_sem]; done)|refine gB (by rfl) (by rfl) (fun h => ?_) (fun h => ?_) <;> (try simp only [hsX, reduceCtorEq] at h))|((with_reducible show Awp _ _ (Code.region _ _ _) _ _); first|refine rK (by repeat constructor) (fun K hK => ?_)|(refine dK (by kernel_rfl) (by repeat constructor) (fun K hK => ?_)))) <;> simp (maxSteps := 2000000) (disch := omega) only [go_sem, ↓reduceIte, Nat.reduceEqDiff, Nat.reduceAdd, Nat.reduceLT, Nat.reduceLeDiff, Nat.reduceSub, tPst, tIsF, h45])|((with_reducible show Awp _ _ (Code.cond _ _ _) _ _); refine aC rfl (fun h => ?_) (fun h => ?_) <;> (try simp only [hsX, reduceCtorEq] at h))|((with_reducible first|refine aK ?_|refine aR ?_); simp only [nx])|((with_reducible refine aE ?_); simp only [nx, ne_eq, not_false_eq_true, Nat.reduceEqDiff, reduceCtorEq]; try ((repeat ((fail_if_success refine hK _ ?_); clear hK K)); refine hK _ ?_; clear hK K))|((with_reducible first|show List.all _ _ = true|show lendOk _ _ = true); rfl)|omega|((with_reducible first|show ¬ _|show _ → _); intro h; first|contradiction|cases h; done|skip)
    all_goals (try (first|refine fK ?_|refine fM ?_; repeat clear hK))
    · rw [fam_nil, inR_not] at h
      exact fin_pf0 (d := tPair) rfl rfl rfl rfl rfl rfl (pf_out h)
    · rw [fam_nil, inR_iff] at h
      exact fin_pf1 (d := tPair) rfl rfl rfl rfl rfl rfl (pf_zero h h45)
  refine awp_wk (wk_cell .i64 3 (b := 1) (j := 1) rfl rfl (by simp)) ?_
  refine awp_forR 0 hX (fun s (i : Nat × List UInt8 × List Int) => s.at [0, 1, 4, 6] [(7, .v (.string ⟨List.toArray i.2.1⟩)), (8, .i i.1)] [.box 29 [.i 0, .nl], .box 29 [.i n, .own 2], .row .i64 3 i.2.2])
    (fun i => (i.1 ≤ l.length ∧ i.2.1.length ≤ i.1 ∧ i.2.2.length ≤ i.1 ∧ psF n (l.drop i.1) i.2.1 i.2.2 = psF n l [] []) ∨ (i.1 = l.length + 1 ∧ psF n l [] [] = some i.2.2)) (fun i => l.length + 1 - i.1) (0, [], [])
    (.inl ⟨Nat.zero_le _, Nat.le_refl _, Nat.le_refl _, rfl⟩) ?_ ?_
  · exact ⟨[0, 1, 2], rfl, rfl, by simp [-List.getD_eq_getElem?_getD, -List.length_take, gdA, leFr, ASt.at, keepFr, updAll, upd_zero, upd_succ, AV.rnb, AV.rnb0], by simp [-List.getD_eq_getElem?_getD, gdA, ASt.at, AO.rnb, AV.rnb0, upd_k0, upd_k1, upd_k2, upd_k3], rfl, rfl⟩
  rintro ⟨i, p, L⟩ hv
  simp only at hv
  simp only [ASt.at, keepFr, updAll, upd_zero, upd_succ, lgA, Nat.reduceEqDiff, Nat.reduceAdd, ↓reduceIte, eq_self]
  have hi : i ≤ l.length + 1 := by omega
  have hs1 : ((i : Int) + 1).toNat = i + 1 := by omega
  have hs2 := fun h => cut1 (l := l) (i := i) h
  have hb := byte_lt (l.getD i 0)
  have hpl : (p.length ≤ 1048576 ∧ L.length ≤ 1048576) ∨ i = l.length + 1 := by omega
  repeat' first | ((with_reducible show aol _ _ _ _ _); first|(refine gF (by rfl) ?_ ?_; focus simp only [go_sem]; done)|(refine gU (by rfl) ?_ ?_; focus simp only [go_sem]; done))|((with_reducible refine hK _ ?_); clear hK K; try simp only [nx])|(with_reducible first|refine aS fun K hK => ?_|refine aB ?_|apply And.intro|exact True.intro)|((first|((with_reducible show aol _ _ _ _ _); try first|(refine gT (by rfl) ?_ ?_; focus simp only [go_sem]; done)|refine gB (by rfl) (by rfl) (fun h => ?_) (fun h => ?_) <;> (try simp only [hsX, reduceCtorEq] at h))|((with_reducible show Awp _ _ (Code.region _ _ _) _ _); first|refine rK (by repeat constructor) (fun K hK => ?_)|(refine dK (by kernel_rfl) (by repeat constructor) (fun K hK => ?_)))) <;> simp (maxSteps := 2000000) (disch := omega) only [go_sem, ↓reduceIte, Nat.reduceEqDiff, Nat.reduceAdd, Nat.reduceLT, Nat.reduceLeDiff, Nat.reduceSub, tPst, tIsF, h45, hs1, hs2])|((with_reducible show Awp _ _ (Code.cond _ _ _) _ _); refine aC rfl (fun h => ?_) (fun h => ?_) <;> (try simp only [hsX, reduceCtorEq] at h))|((with_reducible first|refine aK ?_|refine aR ?_); simp only [nx])|((with_reducible refine aE ?_); simp only [nx, ne_eq, not_false_eq_true, Nat.reduceEqDiff, reduceCtorEq]; try ((repeat ((fail_if_success refine hK _ ?_); clear hK K)); refine hK _ ?_; clear hK K))|((with_reducible first|show List.all _ _ = true|show lendOk _ _ = true); rfl)|omega|((with_reducible first|show ¬ _|show _ → _); intro h; first|contradiction|cases h; done|skip)
  all_goals (try (first|refine fK ?_|refine fM ?_; repeat clear hK))
  · obtain ⟨_, hp1, hp2, hv⟩ := hv.resolve_right (by omega)
    rw [drop_cons (d := 0) (by omega), psF_b (byte_n124 h)] at hv
    refine ⟨(i + 1, p ++ [l.getD i 0], L), .inl ⟨by simp only; omega, by simp only [List.length_append, List.length_cons, List.length_nil]; omega, by simp only; omega, hv⟩, by simp only; omega, ?_⟩
    exact ⟨[0, 1, 2], rfl, rfl, by simp [-List.getD_eq_getElem?_getD, -List.length_take, gdA, leFr, ASt.at, keepFr, updAll, upd_zero, upd_succ, AV.rnb, AV.rnb0], by simp [-List.getD_eq_getElem?_getD, gdA, ASt.at, AO.rnb, AV.rnb0, upd_k0, upd_k1, upd_k2, upd_k3], rfl, rfl⟩
  · rename_i h1
    obtain ⟨_, hp1, hp2, hv⟩ := hv.resolve_right (by omega)
    rw [drop_cons (d := 0) (by omega), psF_c_no (byte_124 h1) h, psF_ip] at hv
    exact fin_pf0 (d := tPair) rfl rfl rfl rfl rfl rfl (pf_none h45 hv.symm)
  · rename_i h1
    obtain ⟨_, hp1, hp2, hv⟩ := hv.resolve_right (by omega)
    rw [drop_cons (d := 0) (by omega), psF_c_yes (byte_124 h1) h] at hv
    refine ⟨(i + 1, [], L ++ [qN n p]), .inl ⟨by simp only; omega, by simp, by simp only [List.length_append, List.length_cons, List.length_nil]; omega, hv⟩, by simp only; omega, ?_⟩
    exact ⟨[0, 1, 4], rfl, rfl, by simp [-List.getD_eq_getElem?_getD, -List.length_take, gdA, leFr, ASt.at, keepFr, updAll, upd_zero, upd_succ, AV.rnb, AV.rnb0], by simp [-List.getD_eq_getElem?_getD, gdA, ASt.at, AO.rnb, AV.rnb0, upd_k0, upd_k1, upd_k2, upd_k3], rfl, rfl⟩
  · obtain ⟨_, hp1, hp2, hv⟩ := hv.resolve_right (by omega)
    rw [List.drop_of_length_le (by omega), psF_nil_no h, psF_ip] at hv
    exact fin_pf0 (d := tPair) rfl rfl rfl rfl rfl rfl (pf_none h45 hv.symm)
  · obtain ⟨_, hp1, hp2, hv⟩ := hv.resolve_right (by omega)
    rw [List.drop_of_length_le (by omega), psF_nil_yes h] at hv
    refine ⟨(i + 1, [], L ++ [qN n p]), .inr ⟨by simp only; omega, hv.symm⟩, by simp only; omega, ?_⟩
    exact ⟨[0, 1, 4], rfl, rfl, by simp [-List.getD_eq_getElem?_getD, -List.length_take, gdA, leFr, ASt.at, keepFr, updAll, upd_zero, upd_succ, AV.rnb, AV.rnb0], by simp [-List.getD_eq_getElem?_getD, gdA, ASt.at, AO.rnb, AV.rnb0, upd_k0, upd_k1, upd_k2, upd_k3], rfl, rfl⟩
  all_goals obtain ⟨_, hv⟩ := hv.resolve_left (by omega)
  all_goals rw [psF_ip] at hv
  · exact fin_pf0 (d := tPair) rfl rfl rfl rfl rfl rfl (pf_bad h45 hv h)
  · exact fin_pf (d := tPair) (j := 2) rfl rfl rfl rfl rfl rfl rfl (pf_some h45 hv h)
theorem exactPf_ok : Fits Tryd.prog 6 tTrIS := by
  refine ⟨callable_of Tryd.func6 (by kernel_rfl) rfl, ?_⟩
  intro args p out Ho h hp
  unfold tTrIS at h
  split at h <;> cases h
  rename_i n s
  refine ⟨acall_by (env_ok2 (env := [(16, tPf), (17, tPf), (13, tEqF), (19, tHeldF)]) (envM := [(18, tMarkF)]) (by simp only [fmA, and_true]; exact ⟨specPf_ok, implPf_ok, eqFamily_ok, heldF_ok⟩) (by simp only [fmA, and_true]; exact markF_ok)) Tryd.func6 rfl rfl rfl rfl rfl ?_, rfl, rfl⟩
  intro hlen c hc hX
  simp only [lensOk, AV.lenOk, true_and, and_true] at hlen
  simp only [Tryd.ntmps6, Tryd.results6, lsA, List.replicate, Nat.reduceAdd, Nat.reduceSub]
  obtain ⟨l, rfl⟩ := str_list s
  have hm := pfL_len n l
  repeat' first | ((with_reducible show aol _ _ _ _ _); first|(refine gF (by rfl) ?_ ?_; focus simp only [go_sem]; done)|(refine gU (by rfl) ?_ ?_; focus simp only [go_sem]; done))|((with_reducible refine hK _ ?_); clear hK K; try simp only [nx])|(with_reducible first|refine aS fun K hK => ?_|refine aB ?_|apply And.intro|exact True.intro)|((first|((with_reducible show aol _ _ _ _ _); try first|(refine gT (by rfl) ?_ ?_; focus simp only [go_sem]; done)|refine gB (by rfl) (by rfl) (fun h => ?_) (fun h => ?_) <;> (try simp only [hsX, reduceCtorEq] at h))|((with_reducible show Awp _ _ (Code.region _ _ _) _ _); first|refine rK (by repeat constructor) (fun K hK => ?_)|(refine dK (by kernel_rfl) (by repeat constructor) (fun K hK => ?_)))) <;> simp (maxSteps := 2000000) (disch := omega) only [go_sem, ↓reduceIte, Nat.reduceEqDiff, Nat.reduceAdd, Nat.reduceLT, Nat.reduceLeDiff, Nat.reduceSub, tPf, tEqF, tHeldF, tMarkF, heldV_marks, marks_len])|((with_reducible show Awp _ _ (Code.cond _ _ _) _ _); refine aC rfl (fun h => ?_) (fun h => ?_) <;> (try simp only [hsX, reduceCtorEq] at h))|((with_reducible first|refine aK ?_|refine aR ?_); simp only [nx])|((with_reducible refine aE ?_); simp only [nx, ne_eq, not_false_eq_true, Nat.reduceEqDiff, reduceCtorEq]; try ((repeat ((fail_if_success refine hK _ ?_); clear hK K)); refine hK _ ?_; clear hK K))|((with_reducible first|show List.all _ _ = true|show lendOk _ _ = true); rfl)|omega|((with_reducible first|show ¬ _|show _ → _); intro h; first|contradiction|cases h; done|skip)
  all_goals (try (first|refine fK ?_|refine fM ?_; repeat clear hK))
  all_goals (refine fin_tmp rfl ?_; rfl)
end Go.Proofs.YthoionlldmfpiaaDoor
