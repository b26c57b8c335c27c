import Derived.Test.YthoionlldmfpiaaGreatT51
import Derived.Test.YthoionlldmfpiaaGreatT38
import Derived.Test.YthoionlldmfpiaaGreatHs
import Derived.Test.YthoionlldmfpiaaGreatT28
set_option linter.unusedSimpArgs false
set_option linter.unusedVariables false
set_option maxHeartbeats 2000000
namespace Go.Proofs.YthoionlldmfpiaaGreat
open Go Go.Ab
attribute [local irreducible] aol
attribute [local irreducible] popN
theorem pr_eta (s : Nat × Int) : (s.1, s.2) = s := by cases s; rfl
theorem finm_pairS {m : Nat} {C : Cfg} {t : Tmp} {b j k : Nat} {T T' : TypeId} {n : Int} {d : TD} {Ho : List AO} {s : ASt} (σ : List Nat) (hT : C.Γ T = some d) (ha : d.agg = true) (hs : d.size = 2) (h : nth s.fr t = .bp b 0)
    (hb : s.hp[b]? = some (.box T' [.i n, .own j])) (hk : σ.getD k 0 = j) (h1 : nodupB σ = true) (h2 : σ.take m = List.range m) (h3 : σ.map (fun i => s.hp[i]?) = Ho.map (fun o => some (o.ren σ))) : FinSM m C [.cell t T] (.ag [.i n, .own k]) Ho s :=
  ⟨s, Wk.refl s, (0 + 2 ≤ 2) ∧ True, .ag [.i n, .own j], by simp [resV, resVs, resV1, aLoad, hT, ha, hs, h, hb], ⟨by omega, trivial⟩, σ, nodupB_spec h1, h2, by simp [AV.ren, AV.ren1, AV.ren0, ← hk], h3⟩
def tBel : MTab
  | [.bp 0 0, .i n], [.box T [.sl .u8 b, .i i, .i h]] => some (0 ≤ i ∧ b.length ≤ 1048576, .i (belowX b n (i.toNat, h)), [.box T [.sl .u8 b, .i ((belowS b n (i.toNat, h)).1 : Int), .i (belowS b n (i.toNat, h)).2]])
  | _, _ => none
theorem bel_ok : FitsM Tryz.prog 69 tBel := by
  refine ⟨?_⟩
  intro args L p out Ho h hp
  unfold tBel at h
  split at h <;> cases h
  rename_i n T b i h
  refine mok_by (env_ok2 (env := []) (envM := [(98, tByt)]) (by simp) (by simp only [fmA, and_true]; exact byt_ok)) (callable_of Tryz.func69 (by kernel_rfl) rfl) Tryz.func69 rfl rfl rfl rfl rfl (by simp) ?_
  intro hlen c hc hX
  simp only [lensIn, AV.lenIn, AV.lenOk, List.getElem?_cons_zero, List.getElem?_cons_succ, true_and, and_true] at hlen
  simp only [Tryz.ntmps69, Tryz.results69, lsA, List.replicate, Nat.reduceAdd, Nat.reduceSub]
  obtain ⟨hi, hb⟩ := hp
  obtain ⟨i, rfl⟩ := Int.eq_ofNat_of_zero_le hi
  rw [Int.toNat_natCast]
  generalize hs : ((i, h) : Nat × Int) = s
  have e1 : i = s.1 := by rw [← hs]
  have e2 : h = s.2 := by rw [← hs]
  subst e1 e2
  have h1 := byteX_bd b s
  have h2 := byteX_bd b (byteS b s)
  have h3 := byteX_bd b (byteS b (byteS b s))
  have h4 := byteX_bd b (byteS b (byteS b (byteS b s)))
  by_cases hn : n ≤ 0
  · have e1 : belowX b n s = 0 := if_pos hn
    have e2 : belowS b n s = s := if_pos hn
    rw [e1, e2]
    repeat' first | ((with_reducible show aol _ _ _ _ _); first|(refine gF (by rfl) ?_ ?_; focus simp only [go_sem]; done)|(refine gU (by rfl) ?_ ?_; focus simp only [go_sem]; done))|((with_reducible refine hK _ ?_); clear hK K; try simp only [nx])|(with_reducible first|refine aS fun K hK => ?_|refine aB ?_|apply And.intro|exact True.intro)|((first|((with_reducible show aol _ _ _ _ _); try first|(refine gT (by rfl) ?_ ?_; focus simp only [go_sem]; done)|refine gB (by rfl) (by rfl) (fun h => ?_) (fun h => ?_) <;> (try simp only [hsX, reduceCtorEq] at h))|((with_reducible show Awp _ _ (Code.region _ _ _) _ _); first|refine rK (by repeat constructor) (fun K hK => ?_)|(refine dK (by kernel_rfl) (by repeat constructor) (fun K hK => ?_)))) <;> simp (maxSteps := 2000000) (disch := omega) only [go_sem, ↓reduceIte, Nat.reduceEqDiff, Nat.reduceAdd, Nat.reduceLT, Nat.reduceLeDiff, Nat.reduceSub, tByt, pr_eta])|((with_reducible show Awp _ _ (Code.cond _ _ _) _ _); refine aC rfl (fun h => ?_) (fun h => ?_) <;> (try simp only [hsX, reduceCtorEq] at h))|((with_reducible first|refine aK ?_|refine aR ?_); simp only [nx])|((with_reducible refine aE ?_); simp only [nx, ne_eq, not_false_eq_true, Nat.reduceEqDiff, reduceCtorEq]; try ((repeat ((fail_if_success refine hK _ ?_); clear hK K)); refine hK _ ?_; clear hK K))|((with_reducible first|show List.all _ _ = true|show lendOk _ _ = true); rfl)|omega|((with_reducible first|show ¬ _|show _ → _); intro h; first|contradiction|cases h; done|skip)
    all_goals (try (first|refine fK ?_|refine fM ?_; repeat clear hK))
    all_goals first | omega | exact finm_t [0] rfl rfl rfl rfl
  · by_cases hn2 : n ≤ 256
    · have e1 : belowX b n s = (byteX b s).tmod n := by unfold belowX; rw [if_neg hn, if_pos hn2]
      have e2 : belowS b n s = byteS b s := by unfold belowS; rw [if_neg hn, if_pos hn2]
      rw [e1, e2]
      repeat' first | ((with_reducible show aol _ _ _ _ _); first|(refine gF (by rfl) ?_ ?_; focus simp only [go_sem]; done)|(refine gU (by rfl) ?_ ?_; focus simp only [go_sem]; done))|((with_reducible refine hK _ ?_); clear hK K; try simp only [nx])|(with_reducible first|refine aS fun K hK => ?_|refine aB ?_|apply And.intro|exact True.intro)|((first|((with_reducible show aol _ _ _ _ _); try first|(refine gT (by rfl) ?_ ?_; focus simp only [go_sem]; done)|refine gB (by rfl) (by rfl) (fun h => ?_) (fun h => ?_) <;> (try simp only [hsX, reduceCtorEq] at h))|((with_reducible show Awp _ _ (Code.region _ _ _) _ _); first|refine rK (by repeat constructor) (fun K hK => ?_)|(refine dK (by kernel_rfl) (by repeat constructor) (fun K hK => ?_)))) <;> simp (maxSteps := 2000000) (disch := omega) only [go_sem, ↓reduceIte, Nat.reduceEqDiff, Nat.reduceAdd, Nat.reduceLT, Nat.reduceLeDiff, Nat.reduceSub, tByt, pr_eta])|((with_reducible show Awp _ _ (Code.cond _ _ _) _ _); refine aC rfl (fun h => ?_) (fun h => ?_) <;> (try simp only [hsX, reduceCtorEq] at h))|((with_reducible first|refine aK ?_|refine aR ?_); simp only [nx])|((with_reducible refine aE ?_); simp only [nx, ne_eq, not_false_eq_true, Nat.reduceEqDiff, reduceCtorEq]; try ((repeat ((fail_if_success refine hK _ ?_); clear hK K)); refine hK _ ?_; clear hK K))|((with_reducible first|show List.all _ _ = true|show lendOk _ _ = true); rfl)|omega|((with_reducible first|show ¬ _|show _ → _); intro h; first|contradiction|cases h; done|skip)
      all_goals (try (first|refine fK ?_|refine fM ?_; repeat clear hK))
      all_goals first | omega | exact finm_t [0] rfl rfl rfl rfl
    · have e1 : belowX b n s = (fourX b s).tmod n := by unfold belowX; rw [if_neg hn, if_neg hn2]
      have e2 : belowS b n s = byteS b (byteS b (byteS b (byteS b s))) := by unfold belowS; rw [if_neg hn, if_neg hn2]
      rw [e1, e2, fourX]
      repeat' first | ((with_reducible show aol _ _ _ _ _); first|(refine gF (by rfl) ?_ ?_; focus simp only [go_sem]; done)|(refine gU (by rfl) ?_ ?_; focus simp only [go_sem]; done))|((with_reducible refine hK _ ?_); clear hK K; try simp only [nx])|(with_reducible first|refine aS fun K hK => ?_|refine aB ?_|apply And.intro|exact True.intro)|((first|((with_reducible show aol _ _ _ _ _); try first|(refine gT (by rfl) ?_ ?_; focus simp only [go_sem]; done)|refine gB (by rfl) (by rfl) (fun h => ?_) (fun h => ?_) <;> (try simp only [hsX, reduceCtorEq] at h))|((with_reducible show Awp _ _ (Code.region _ _ _) _ _); first|refine rK (by repeat constructor) (fun K hK => ?_)|(refine dK (by kernel_rfl) (by repeat constructor) (fun K hK => ?_)))) <;> simp (maxSteps := 2000000) (disch := omega) only [go_sem, ↓reduceIte, Nat.reduceEqDiff, Nat.reduceAdd, Nat.reduceLT, Nat.reduceLeDiff, Nat.reduceSub, tByt, pr_eta])|((with_reducible show Awp _ _ (Code.cond _ _ _) _ _); refine aC rfl (fun h => ?_) (fun h => ?_) <;> (try simp only [hsX, reduceCtorEq] at h))|((with_reducible first|refine aK ?_|refine aR ?_); simp only [nx])|((with_reducible refine aE ?_); simp only [nx, ne_eq, not_false_eq_true, Nat.reduceEqDiff, reduceCtorEq]; try ((repeat ((fail_if_success refine hK _ ?_); clear hK K)); refine hK _ ?_; clear hK K))|((with_reducible first|show List.all _ _ = true|show lendOk _ _ = true); rfl)|omega|((with_reducible first|show ¬ _|show _ → _); intro h; first|contradiction|cases h; done|skip)
      all_goals (try (first|refine fK ?_|refine fM ?_; repeat clear hK))
      all_goals first | omega | exact finm_t [0] rfl rfl rfl rfl
def tOnc : MTab
  | [.bp 0 0, .i n], [.box T [.sl .u8 b, .i i, .i h]] => some (0 ≤ i ∧ b.length ≤ 1048576, .b (onceX b n (i.toNat, h)), [.box T [.sl .u8 b, .i ((belowS b n (i.toNat, h)).1 : Int), .i (belowS b n (i.toNat, h)).2]])
  | _, _ => none
theorem onc_ok : FitsM Tryz.prog 91 tOnc := by
  refine ⟨?_⟩
  intro args L p out Ho h hp
  unfold tOnc at h
  split at h <;> cases h
  rename_i n T b i h
  refine mok_by (env_ok2 (env := []) (envM := [(69, tBel)]) (by simp) (by simp only [fmA, and_true]; exact bel_ok)) (callable_of Tryz.func91 (by kernel_rfl) rfl) Tryz.func91 rfl rfl rfl rfl rfl (by simp) ?_
  intro hlen c hc hX
  simp only [lensIn, AV.lenIn, AV.lenOk, List.getElem?_cons_zero, List.getElem?_cons_succ, true_and, and_true] at hlen
  simp only [Tryz.ntmps91, Tryz.results91, lsA, List.replicate, Nat.reduceAdd, Nat.reduceSub]
  obtain ⟨hi, hb⟩ := hp
  repeat' first | ((with_reducible show aol _ _ _ _ _); first|(refine gF (by rfl) ?_ ?_; focus simp only [go_sem]; done)|(refine gU (by rfl) ?_ ?_; focus simp only [go_sem]; done))|((with_reducible refine hK _ ?_); clear hK K; try simp only [nx])|(with_reducible first|refine aS fun K hK => ?_|refine aB ?_|apply And.intro|exact True.intro)|((first|((with_reducible show aol _ _ _ _ _); try first|(refine gT (by rfl) ?_ ?_; focus simp only [go_sem]; done)|refine gB (by rfl) (by rfl) (fun h => ?_) (fun h => ?_) <;> (try simp only [hsX, reduceCtorEq] at h))|((with_reducible show Awp _ _ (Code.region _ _ _) _ _); first|refine rK (by repeat constructor) (fun K hK => ?_)|(refine dK (by kernel_rfl) (by repeat constructor) (fun K hK => ?_)))) <;> simp (maxSteps := 2000000) (disch := omega) only [go_sem, ↓reduceIte, Nat.reduceEqDiff, Nat.reduceAdd, Nat.reduceLT, Nat.reduceLeDiff, Nat.reduceSub, tBel])|((with_reducible show Awp _ _ (Code.cond _ _ _) _ _); refine aC rfl (fun h => ?_) (fun h => ?_) <;> (try simp only [hsX, reduceCtorEq] at h))|((with_reducible first|refine aK ?_|refine aR ?_); simp only [nx])|((with_reducible refine aE ?_); simp only [nx, ne_eq, not_false_eq_true, Nat.reduceEqDiff, reduceCtorEq]; try ((repeat ((fail_if_success refine hK _ ?_); clear hK K)); refine hK _ ?_; clear hK K))|((with_reducible first|show List.all _ _ = true|show lendOk _ _ = true); rfl)|omega|((with_reducible first|show ¬ _|show _ → _); intro h; first|contradiction|cases h; done|skip)
  all_goals (try (first|refine fK ?_|refine fM ?_; repeat clear hK))
  exact finm_t [0] rfl rfl rfl rfl
def tPkI : MTab
  | [.bp 0 0, .own 1], [.box T [.sl .u8 b, .i i, .i h], .row .i64 E l] =>
    some ((0 ≤ i ∧ b.length ≤ 1048576) ∧ 0 < l.length ∧ l.length ≤ 1000, .i (pickX b l (i.toNat, h)), [.box T [.sl .u8 b, .i ((belowS b l.length (i.toNat, h)).1 : Int), .i (belowS b l.length (i.toNat, h)).2], .row .i64 E l])
  | _, _ => none
theorem pkI_ok : FitsM Tryz.prog 92 tPkI := by
  refine ⟨?_⟩
  intro args L p out Ho h hp
  unfold tPkI at h
  split at h <;> cases h
  rename_i T b i h E l
  refine mok_by (env_ok2 (env := []) (envM := [(69, tBel)]) (by simp) (by simp only [fmA, and_true]; exact bel_ok)) (callable_of Tryz.func92 (by kernel_rfl) rfl) Tryz.func92 rfl rfl rfl rfl rfl (by simp) ?_
  intro hlen c hc hX
  simp only [lensIn, AV.lenIn, AV.lenOk, List.getElem?_cons_zero, List.getElem?_cons_succ, true_and, and_true] at hlen
  simp only [Tryz.ntmps92, Tryz.results92, lsA, List.replicate, Nat.reduceAdd, Nat.reduceSub]
  obtain ⟨⟨hi, hb⟩, hl0, hl⟩ := hp
  have hbd := belowX_bd b (n := (l.length : Int)) (by omega) (i.toNat, h)
  repeat' first | ((with_reducible show aol _ _ _ _ _); first|(refine gF (by rfl) ?_ ?_; focus simp only [go_sem]; done)|(refine gU (by rfl) ?_ ?_; focus simp only [go_sem]; done))|((with_reducible refine hK _ ?_); clear hK K; try simp only [nx])|(with_reducible first|refine aS fun K hK => ?_|refine aB ?_|apply And.intro|exact True.intro)|((first|((with_reducible show aol _ _ _ _ _); try first|(refine gT (by rfl) ?_ ?_; focus simp only [go_sem]; done)|refine gB (by rfl) (by rfl) (fun h => ?_) (fun h => ?_) <;> (try simp only [hsX, reduceCtorEq] at h))|((with_reducible show Awp _ _ (Code.region _ _ _) _ _); first|refine rK (by repeat constructor) (fun K hK => ?_)|(refine dK (by kernel_rfl) (by repeat constructor) (fun K hK => ?_)))) <;> simp (maxSteps := 2000000) (disch := omega) only [go_sem, ↓reduceIte, Nat.reduceEqDiff, Nat.reduceAdd, Nat.reduceLT, Nat.reduceLeDiff, Nat.reduceSub, tBel])|((with_reducible show Awp _ _ (Code.cond _ _ _) _ _); refine aC rfl (fun h => ?_) (fun h => ?_) <;> (try simp only [hsX, reduceCtorEq] at h))|((with_reducible first|refine aK ?_|refine aR ?_); simp only [nx])|((with_reducible refine aE ?_); simp only [nx, ne_eq, not_false_eq_true, Nat.reduceEqDiff, reduceCtorEq]; try ((repeat ((fail_if_success refine hK _ ?_); clear hK K)); refine hK _ ?_; clear hK K))|((with_reducible first|show List.all _ _ = true|show lendOk _ _ = true); rfl)|omega|((with_reducible first|show ¬ _|show _ → _); intro h; first|contradiction|cases h; done|skip)
  all_goals (try (first|refine fK ?_|refine fM ?_; repeat clear hK))
  exact finm_t [0, 1] rfl rfl rfl rfl
def drawL (b : List Int) (n : Int) : Nat → List Int → Nat × Int → List Int × (Nat × Int)
  | 0, l, s => (l, s)
  | k + 1, l, s => drawL b n k (putV l (belowX b (2 ^ n.toNat) s)) (belowS b (2 ^ n.toNat) s)
def famN (b : List Int) (m : Int) (s : Nat × Int) : Int := belowX b (m + 1) s
def famK (b : List Int) (m : Int) (s : Nat × Int) : Int := belowX b 7 (belowS b (m + 1) s)
def famD (b : List Int) (m : Int) (s : Nat × Int) : List Int × (Nat × Int) := drawL b (famN b m s) (famK b m s).toNat [] (belowS b 7 (belowS b (m + 1) s))
theorem drawL_len (b : List Int) (n : Int) : ∀ (k : Nat) (l : List Int) (s : Nat × Int), (drawL b n k l s).1.length ≤ l.length + k
  | 0, _, _ => Nat.le_refl _
  | k + 1, l, s => by
    have h1 := drawL_len b n k (putV l (belowX b (2 ^ n.toNat) s)) (belowS b (2 ^ n.toNat) s)
    have h2 := putV_len (belowX b (2 ^ n.toNat) s) l
    show (drawL b n k _ _).1.length ≤ _
    omega
theorem famD_len (b : List Int) (m : Int) (s : Nat × Int) : (famD b m s).1.length ≤ 6 := by
  have h1 := drawL_len b (famN b m s) (famK b m s).toNat [] (belowS b 7 (belowS b (m + 1) s))
  have h2 := belowX_bd b (n := 7) (by omega) (belowS b (m + 1) s)
  have h3 : famK b m s < 7 := h2.2
  show (drawL b _ _ _ _).1.length ≤ 6
  simp only [List.length_nil] at h1
  omega
def tDrF : MTab
  | [.bp 0 0, .i m], [.box T [.sl .u8 b, .i i, .i h]] => some ((0 ≤ i ∧ b.length ≤ 1048576) ∧ 0 ≤ m ∧ m ≤ 6, .ag [.i (famN b m (i.toNat, h)), .own 1],
      [.box T [.sl .u8 b, .i ((famD b m (i.toNat, h)).2.1 : Int), .i (famD b m (i.toNat, h)).2.2], .row .i64 3 (famD b m (i.toNat, h)).1])
  | _, _ => none
theorem drF_ok : FitsM Tryz.prog 114 tDrF := by
  refine ⟨?_⟩
  intro args L p out Ho h hp
  unfold tDrF at h
  split at h <;> cases h
  rename_i m T b i h
  refine mok_by (env_ok2 (env := [(123, tPut)]) (envM := [(123, tPutM), (69, tBel)]) (by simp only [fmA, and_true]; exact put_ok) (by simp only [fmA, and_true]; exact ⟨putM_ok, bel_ok⟩)) (callable_of Tryz.func114 (by kernel_rfl) rfl) Tryz.func114 rfl rfl rfl rfl rfl (by simp) ?_
  intro hlen c hc hX
  simp only [lensIn, AV.lenIn, AV.lenOk, List.getElem?_cons_zero, List.getElem?_cons_succ, true_and, and_true] at hlen
  simp only [Tryz.ntmps114, Tryz.results114, lsA, List.replicate, Nat.reduceAdd, Nat.reduceSub]
  obtain ⟨⟨hi, hb⟩, hm0, hm⟩ := hp
  obtain ⟨i, rfl⟩ := Int.eq_ofNat_of_zero_le hi
  rw [Int.toNat_natCast]
  generalize hs : ((i, h) : Nat × Int) = s0
  have e1 : i = s0.1 := by rw [← hs]
  have e2 : h = s0.2 := by rw [← hs]
  subst e1 e2
  have hn : 0 ≤ famN b m s0 ∧ famN b m s0 < m + 1 := belowX_bd b (by omega) s0
  have hk : 0 ≤ famK b m s0 ∧ famK b m s0 < 7 := belowX_bd b (by omega) _
  have fN : belowX b (m + 1) s0 = famN b m s0 := rfl
  have fK : belowX b 7 (belowS b (m + 1) s0) = famK b m s0 := rfl
  obtain ⟨k0, hk0⟩ := Int.eq_ofNat_of_zero_le hk.1
  repeat' first | ((with_reducible show aol _ _ _ _ _); first|(refine gF (by rfl) ?_ ?_; focus simp only [go_sem]; done)|(refine gU (by rfl) ?_ ?_; focus simp only [go_sem]; done))|((with_reducible refine hK _ ?_); clear hK K; try simp only [nx])|(with_reducible first|refine aS fun K hK => ?_|refine aB ?_|apply And.intro|exact True.intro)|((first|((with_reducible show aol _ _ _ _ _); try first|(refine gT (by rfl) ?_ ?_; focus simp only [go_sem]; done)|refine gB (by rfl) (by rfl) (fun h => ?_) (fun h => ?_) <;> (try simp only [hsX, reduceCtorEq] at h))|((with_reducible show Awp _ _ (Code.region _ _ _) _ _); first|refine rK (by repeat constructor) (fun K hK => ?_)|(refine dK (by kernel_rfl) (by repeat constructor) (fun K hK => ?_)))) <;> simp (maxSteps := 2000000) (disch := omega) only [go_sem, ↓reduceIte, Nat.reduceEqDiff, Nat.reduceAdd, Nat.reduceLT, Nat.reduceLeDiff, Nat.reduceSub, tBel, pr_eta, fN, fK])|((with_reducible show Awp _ _ (Code.cond _ _ _) _ _); refine aC rfl (fun h => ?_) (fun h => ?_) <;> (try simp only [hsX, reduceCtorEq] at h))|((with_reducible first|refine aK ?_|refine aR ?_); simp only [nx])|((with_reducible refine aE ?_); simp only [nx, ne_eq, not_false_eq_true, Nat.reduceEqDiff, reduceCtorEq]; try ((repeat ((fail_if_success refine hK _ ?_); clear hK K)); refine hK _ ?_; clear hK K))|((with_reducible first|show List.all _ _ = true|show lendOk _ _ = true); rfl)|omega|((with_reducible first|show ¬ _|show _ → _); intro h; first|contradiction|cases h; done|skip)
  all_goals (try (first|refine fK ?_|refine fM ?_; repeat clear hK))
  refine awp_forR 1 hX (fun st (x : Nat × List Int × (Nat × Int)) => st.at [0, 4, 5] [(6, .own 2), (7, .i x.1)] [.box T [.sl .u8 b, .i (x.2.2.1 : Int), .i x.2.2.2], .box 29 [.i 0, .nl], .row .i64 3 x.2.1])
    (fun x => (x.2.1.Pairwise (· < ·) ∧ x.2.1.length + x.1 ≤ 6) ∧ drawL b (famN b m s0) x.1 x.2.1 x.2.2 = famD b m s0) (fun x => x.1) (k0, [], belowS b 7 (belowS b (m + 1) s0)) ⟨⟨List.Pairwise.nil, by simp only [List.length_nil]; omega⟩, ?_⟩ ?_ ?_
  · show drawL b (famN b m s0) k0 [] _ = drawL b (famN b m s0) (famK b m s0).toNat [] _
    rw [hk0, Int.toNat_natCast]
  · exact ⟨[0, 1, 2], rfl, rfl, by simp [-List.getD_eq_getElem?_getD, -List.length_take, gdA, leFr, ASt.at, keepFr, updAll, upd_zero, upd_succ, AV.rnb, AV.rnb0, hk0], by simp [-List.getD_eq_getElem?_getD, gdA, ASt.at, AO.rnb, AV.rnb0, upd_k0, upd_k1, upd_k2, upd_k3, hk0], rfl, rfl⟩
  rintro ⟨k, l, s⟩ ⟨⟨hasc, hlen2⟩, hd⟩
  simp only [ASt.at, keepFr, updAll, upd_zero, upd_succ, lgA, Nat.reduceEqDiff, Nat.reduceAdd, ↓reduceIte, eq_self]
  have hinc : incB l = true := inc_of_asc hasc
  cases k with
  | zero =>
    have hd' : famD b m s0 = (l, s) := hd.symm
    repeat' first | ((with_reducible show aol _ _ _ _ _); first|(refine gF (by rfl) ?_ ?_; focus simp only [go_sem]; done)|(refine gU (by rfl) ?_ ?_; focus simp only [go_sem]; done))|((with_reducible refine hK _ ?_); clear hK K; try simp only [nx])|(with_reducible first|refine aS fun K hK => ?_|refine aB ?_|apply And.intro|exact True.intro)|((first|((with_reducible show aol _ _ _ _ _); try first|(refine gT (by rfl) ?_ ?_; focus simp only [go_sem]; done)|refine gB (by rfl) (by rfl) (fun h => ?_) (fun h => ?_) <;> (try simp only [hsX, reduceCtorEq] at h))|((with_reducible show Awp _ _ (Code.region _ _ _) _ _); first|refine rK (by repeat constructor) (fun K hK => ?_)|(refine dK (by kernel_rfl) (by repeat constructor) (fun K hK => ?_)))) <;> simp (maxSteps := 2000000) (disch := omega) only [go_sem, ↓reduceIte, Nat.reduceEqDiff, Nat.reduceAdd, Nat.reduceLT, Nat.reduceLeDiff, Nat.reduceSub])|((with_reducible show Awp _ _ (Code.cond _ _ _) _ _); refine aC rfl (fun h => ?_) (fun h => ?_) <;> (try simp only [hsX, reduceCtorEq] at h))|((with_reducible first|refine aK ?_|refine aR ?_); simp only [nx])|((with_reducible refine aE ?_); simp only [nx, ne_eq, not_false_eq_true, Nat.reduceEqDiff, reduceCtorEq]; try ((repeat ((fail_if_success refine hK _ ?_); clear hK K)); refine hK _ ?_; clear hK K))|((with_reducible first|show List.all _ _ = true|show lendOk _ _ = true); rfl)|omega|((with_reducible first|show ¬ _|show _ → _); intro h; first|contradiction|cases h; done|skip)
    all_goals (try (first|refine fK ?_|refine fM ?_; repeat clear hK))
    rw [hd']
    exact finm_pairS (d := tPair) (j := 2) (b := 1) [0, 2] rfl rfl rfl rfl rfl rfl rfl rfl rfl
  | succ k =>
    have hl2 : l.length + (k + 1) ≤ 6 := hlen2
    have hsh := ishl_one (n := famN b m s0) hn.1 (by omega)
    have hd' : drawL b (famN b m s0) k (putV l (belowX b (2 ^ (famN b m s0).toNat) s)) (belowS b (2 ^ (famN b m s0).toNat) s) = famD b m s0 := hd
    have hpl := putV_len (belowX b (2 ^ (famN b m s0).toNat) s) l
    by_cases hin : belowX b (2 ^ (famN b m s0).toNat) s ∈ l
    · have hin' := eq_true hin
      rw [putV_in hasc hin] at hd'
      repeat' first | ((with_reducible show aol _ _ _ _ _); first|(refine gF (by rfl) ?_ ?_; focus simp only [go_sem]; done)|(refine gU (by rfl) ?_ ?_; focus simp only [go_sem]; done))|((with_reducible refine hK _ ?_); clear hK K; try simp only [nx])|(with_reducible first|refine aS fun K hK => ?_|refine aB ?_|apply And.intro|exact True.intro)|((first|((with_reducible show aol _ _ _ _ _); try first|(refine gT (by rfl) ?_ ?_; focus simp only [go_sem]; done)|refine gB (by rfl) (by rfl) (fun h => ?_) (fun h => ?_) <;> (try simp only [hsX, reduceCtorEq] at h))|((with_reducible show Awp _ _ (Code.region _ _ _) _ _); first|refine rK (by repeat constructor) (fun K hK => ?_)|(refine dK (by kernel_rfl) (by repeat constructor) (fun K hK => ?_)))) <;> simp (maxSteps := 2000000) (disch := omega) only [go_sem, ↓reduceIte, Nat.reduceEqDiff, Nat.reduceAdd, Nat.reduceLT, Nat.reduceLeDiff, Nat.reduceSub, tBel, pr_eta, hsh, tPut, tPutM, hin', hinc])|((with_reducible show Awp _ _ (Code.cond _ _ _) _ _); refine aC rfl (fun h => ?_) (fun h => ?_) <;> (try simp only [hsX, reduceCtorEq] at h))|((with_reducible first|refine aK ?_|refine aR ?_); simp only [nx])|((with_reducible refine aE ?_); simp only [nx, ne_eq, not_false_eq_true, Nat.reduceEqDiff, reduceCtorEq]; try ((repeat ((fail_if_success refine hK _ ?_); clear hK K)); refine hK _ ?_; clear hK K))|((with_reducible first|show List.all _ _ = true|show lendOk _ _ = true); rfl)|omega|((with_reducible first|show ¬ _|show _ → _); intro h; first|contradiction|cases h; done|skip)
      all_goals (try (first|refine fK ?_|refine fM ?_; repeat clear hK))
      refine ⟨(k, l, belowS b (2 ^ (famN b m s0).toNat) s), ⟨⟨hasc, by show l.length + k ≤ 6; omega⟩, hd'⟩, Nat.lt_succ_self k, ?_⟩
      exact ⟨[0, 1, 2], rfl, rfl, by simp [-List.getD_eq_getElem?_getD, -List.length_take, gdA, leFr, ASt.at, keepFr, updAll, upd_zero, upd_succ, AV.rnb, AV.rnb0], by simp [-List.getD_eq_getElem?_getD, gdA, ASt.at, AO.rnb, AV.rnb0, upd_k0, upd_k1, upd_k2, upd_k3], rfl, rfl⟩
    · have hin' := eq_false hin
      repeat' first | ((with_reducible show aol _ _ _ _ _); first|(refine gF (by rfl) ?_ ?_; focus simp only [go_sem]; done)|(refine gU (by rfl) ?_ ?_; focus simp only [go_sem]; done))|((with_reducible refine hK _ ?_); clear hK K; try simp only [nx])|(with_reducible first|refine aS fun K hK => ?_|refine aB ?_|apply And.intro|exact True.intro)|((first|((with_reducible show aol _ _ _ _ _); try first|(refine gT (by rfl) ?_ ?_; focus simp only [go_sem]; done)|refine gB (by rfl) (by rfl) (fun h => ?_) (fun h => ?_) <;> (try simp only [hsX, reduceCtorEq] at h))|((with_reducible show Awp _ _ (Code.region _ _ _) _ _); first|refine rK (by repeat constructor) (fun K hK => ?_)|(refine dK (by kernel_rfl) (by repeat constructor) (fun K hK => ?_)))) <;> simp (maxSteps := 2000000) (disch := omega) only [go_sem, ↓reduceIte, Nat.reduceEqDiff, Nat.reduceAdd, Nat.reduceLT, Nat.reduceLeDiff, Nat.reduceSub, tBel, pr_eta, hsh, tPut, tPut0, hin', hinc])|((with_reducible show Awp _ _ (Code.cond _ _ _) _ _); refine aC rfl (fun h => ?_) (fun h => ?_) <;> (try simp only [hsX, reduceCtorEq] at h))|((with_reducible first|refine aK ?_|refine aR ?_); simp only [nx])|((with_reducible refine aE ?_); simp only [nx, ne_eq, not_false_eq_true, Nat.reduceEqDiff, reduceCtorEq]; try ((repeat ((fail_if_success refine hK _ ?_); clear hK K)); refine hK _ ?_; clear hK K))|((with_reducible first|show List.all _ _ = true|show lendOk _ _ = true); rfl)|omega|((with_reducible first|show ¬ _|show _ → _); intro h; first|contradiction|cases h; done|skip)
      all_goals (try (first|refine fK ?_|refine fM ?_; repeat clear hK))
      refine ⟨(k, putV l (belowX b (2 ^ (famN b m s0).toNat) s), belowS b (2 ^ (famN b m s0).toNat) s), ⟨⟨putV_asc hasc, by show (putV _ _).length + k ≤ 6; omega⟩, hd'⟩, Nat.lt_succ_self k, ?_⟩
      exact ⟨[0, 1, 3], rfl, rfl, by simp [-List.getD_eq_getElem?_getD, -List.length_take, gdA, leFr, ASt.at, keepFr, updAll, upd_zero, upd_succ, AV.rnb, AV.rnb0], by simp [-List.getD_eq_getElem?_getD, gdA, ASt.at, AO.rnb, AV.rnb0, upd_k0, upd_k1, upd_k2, upd_k3], rfl, rfl⟩
def anyX (b : List Int) (s : Nat × Int) : Int := belowX b 14 (famD b 5 s).2
def anyT (b : List Int) (s : Nat × Int) : Nat × Int := belowS b 14 (famD b 5 s).2
def anyG (b : List Int) (s : Nat × Int) : Int := if anyX b s = 0 then pickX b [-1, 7, 6, 0, 9223372036854775807] (anyT b s) else famN b 5 s
def anyL (b : List Int) (s : Nat × Int) : List Int := if anyX b s = 1 then (famD b 5 s).1 ++ [pickX b [0, 3, 63, 64, -1] (anyT b s)] else (famD b 5 s).1
def anyS (b : List Int) (s : Nat × Int) : Nat × Int := if anyX b s = 0 ∨ anyX b s = 1 then belowS b 5 (anyT b s) else anyT b s
theorem anyL_len (b : List Int) (s : Nat × Int) : (anyL b s).length ≤ 7 := by
  have := famD_len b 5 s
  unfold anyL; split
  · rw [List.length_append, List.length_singleton]; omega
  · omega
def tAny : MTab
  | [.bp 0 0], [.box T [.sl .u8 b, .i i, .i h]] => some (0 ≤ i ∧ b.length ≤ 1048576, .ag [.i (anyG b (i.toNat, h)), .own 1],
      [.box T [.sl .u8 b, .i ((anyS b (i.toNat, h)).1 : Int), .i (anyS b (i.toNat, h)).2], .row .i64 3 (anyL b (i.toNat, h))])
  | _, _ => none
theorem any_ok : FitsM Tryz.prog 97 tAny := by
  refine ⟨?_⟩
  intro args L p out Ho h hp
  unfold tAny at h
  split at h <;> cases h
  rename_i T b i h
  refine mok_by (env_ok2 (env := []) (envM := [(114, tDrF), (69, tBel), (92, tPkI)]) (by simp) (by simp only [fmA, and_true]; exact ⟨drF_ok, bel_ok, pkI_ok⟩)) (callable_of Tryz.func97 (by kernel_rfl) rfl) Tryz.func97 rfl rfl rfl rfl rfl (by simp) ?_
  intro hlen c hc hX
  simp only [lensIn, AV.lenIn, AV.lenOk, List.getElem?_cons_zero, List.getElem?_cons_succ, true_and, and_true] at hlen
  simp only [Tryz.ntmps97, Tryz.results97, lsA, List.replicate, Nat.reduceAdd, Nat.reduceSub]
  obtain ⟨hi, hb⟩ := hp
  obtain ⟨i, rfl⟩ := Int.eq_ofNat_of_zero_le hi
  rw [Int.toNat_natCast]
  generalize hs : ((i, h) : Nat × Int) = s0
  have e1 : i = s0.1 := by rw [← hs]
  have e2 : h = s0.2 := by rw [← hs]
  subst e1 e2
  have fX : belowX b 14 (famD b 5 s0).2 = anyX b s0 := rfl
  have fT : belowS b 14 (famD b 5 s0).2 = anyT b s0 := rfl
  have hfl := famD_len b 5 s0
  by_cases h0 : anyX b s0 = 0
  · have eG : anyG b s0 = pickX b [-1, 7, 6, 0, 9223372036854775807] (anyT b s0) := if_pos h0
    have eL : anyL b s0 = (famD b 5 s0).1 := if_neg (by omega)
    have eS : anyS b s0 = belowS b 5 (anyT b s0) := if_pos (.inl h0)
    repeat' first | ((with_reducible show aol _ _ _ _ _); first|(refine gF (by rfl) ?_ ?_; focus simp only [go_sem]; done)|(refine gU (by rfl) ?_ ?_; focus simp only [go_sem]; done))|((with_reducible refine hK _ ?_); clear hK K; try simp only [nx])|(with_reducible first|refine aS fun K hK => ?_|refine aB ?_|apply And.intro|exact True.intro)|((first|((with_reducible show aol _ _ _ _ _); try first|(refine gT (by rfl) ?_ ?_; focus simp only [go_sem]; done)|refine gB (by rfl) (by rfl) (fun h => ?_) (fun h => ?_) <;> (try simp only [hsX, reduceCtorEq] at h))|((with_reducible show Awp _ _ (Code.region _ _ _) _ _); first|refine rK (by repeat constructor) (fun K hK => ?_)|(refine dK (by kernel_rfl) (by repeat constructor) (fun K hK => ?_)))) <;> simp (maxSteps := 2000000) (disch := omega) only [go_sem, ↓reduceIte, Nat.reduceEqDiff, Nat.reduceAdd, Nat.reduceLT, Nat.reduceLeDiff, Nat.reduceSub, tDrF, tBel, tPkI, pr_eta, fX, fT, h0])|((with_reducible show Awp _ _ (Code.cond _ _ _) _ _); refine aC rfl (fun h => ?_) (fun h => ?_) <;> (try simp only [hsX, reduceCtorEq] at h))|((with_reducible first|refine aK ?_|refine aR ?_); simp only [nx])|((with_reducible refine aE ?_); simp only [nx, ne_eq, not_false_eq_true, Nat.reduceEqDiff, reduceCtorEq]; try ((repeat ((fail_if_success refine hK _ ?_); clear hK K)); refine hK _ ?_; clear hK K))|((with_reducible first|show List.all _ _ = true|show lendOk _ _ = true); rfl)|omega|((with_reducible first|show ¬ _|show _ → _); intro h; first|contradiction|cases h; done|skip)
    all_goals (try (first|refine fK ?_|refine fM ?_; repeat clear hK))
    rw [eG, eL, eS]
    exact finm_pairS (d := tPair) (j := 2) (b := 1) [0, 2] rfl rfl rfl rfl rfl rfl rfl rfl rfl
  · by_cases h1 : anyX b s0 = 1
    · have eG : anyG b s0 = famN b 5 s0 := if_neg h0
      have eL : anyL b s0 = (famD b 5 s0).1 ++ [pickX b [0, 3, 63, 64, -1] (anyT b s0)] := if_pos h1
      have eS : anyS b s0 = belowS b 5 (anyT b s0) := if_pos (.inr h1)
      repeat' first | ((with_reducible show aol _ _ _ _ _); first|(refine gF (by rfl) ?_ ?_; focus simp only [go_sem]; done)|(refine gU (by rfl) ?_ ?_; focus simp only [go_sem]; done))|((with_reducible refine hK _ ?_); clear hK K; try simp only [nx])|(with_reducible first|refine aS fun K hK => ?_|refine aB ?_|apply And.intro|exact True.intro)|((with_reducible show Awp _ _ (Code.region 6 _ true) _ _); (refine awp_ordersK [[2, 0, 1, 3, 4, 5, 6, 7, 8], [2, 0, 3, 1, 4, 5, 6, 7, 8], [2, 0, 3, 4, 1, 5, 6, 7, 8], [2, 0, 3, 4, 5, 1, 6, 7, 8], [2, 3, 0, 1, 4, 5, 6, 7, 8], [2, 3, 0, 4, 1, 5, 6, 7, 8], [2, 3, 0, 4, 5, 1, 6, 7, 8], [2, 3, 4, 0, 1, 5, 6, 7, 8], [2, 3, 4, 0, 5, 1, 6, 7, 8], [2, 3, 4, 5, 0, 1, 6, 7, 8]] (by kernel_rfl) (by kernel_rfl) (by repeat constructor) (fun K hK => ?_); simp only [Alls, and_true]; (repeat' apply And.intro) <;> (refine ⟨_, by repeat constructor, ?_⟩; simp (config := { maxSteps := 2000000 }) (disch := omega) only [go_sem, ↓reduceIte, Nat.reduceEqDiff, Nat.reduceAdd, Nat.reduceLT, Nat.reduceLeDiff, Nat.reduceSub, tDrF, tBel, tPkI, pr_eta, fX, fT, h1])))|((first|((with_reducible show aol _ _ _ _ _); try first|(refine gT (by rfl) ?_ ?_; focus simp only [go_sem]; done)|refine gB (by rfl) (by rfl) (fun h => ?_) (fun h => ?_) <;> (try simp only [hsX, reduceCtorEq] at h))|((with_reducible show Awp _ _ (Code.region _ _ _) _ _); first|refine rK (by repeat constructor) (fun K hK => ?_)|(refine dK (by kernel_rfl) (by repeat constructor) (fun K hK => ?_)))) <;> simp (maxSteps := 2000000) (disch := omega) only [go_sem, ↓reduceIte, Nat.reduceEqDiff, Nat.reduceAdd, Nat.reduceLT, Nat.reduceLeDiff, Nat.reduceSub, tDrF, tBel, tPkI, pr_eta, fX, fT, h1])|((with_reducible show Awp _ _ (Code.cond _ _ _) _ _); refine aC rfl (fun h => ?_) (fun h => ?_) <;> (try simp only [hsX, reduceCtorEq] at h))|((with_reducible first|refine aK ?_|refine aR ?_); simp only [nx])|((with_reducible refine aE ?_); simp only [nx, ne_eq, not_false_eq_true, Nat.reduceEqDiff, reduceCtorEq]; try ((repeat ((fail_if_success refine hK _ ?_); clear hK K)); refine hK _ ?_; clear hK K))|((with_reducible first|show List.all _ _ = true|show lendOk _ _ = true); rfl)|omega|((with_reducible first|show ¬ _|show _ → _); intro h; first|contradiction|cases h; done|skip)
      all_goals (try (first|refine fK ?_|refine fM ?_; repeat clear hK))
      all_goals (rw [eG, eL, eS]; exact finm_pairS (d := tPair) (j := 6) (b := 1) [0, 6] rfl rfl rfl rfl rfl rfl rfl rfl rfl)
    · have eG : anyG b s0 = famN b 5 s0 := if_neg h0
      have eL : anyL b s0 = (famD b 5 s0).1 := if_neg h1
      have eS : anyS b s0 = anyT b s0 := if_neg (by omega)
      repeat' first | ((with_reducible show aol _ _ _ _ _); first|(refine gF (by rfl) ?_ ?_; focus simp only [go_sem]; done)|(refine gU (by rfl) ?_ ?_; focus simp only [go_sem]; done))|((with_reducible refine hK _ ?_); clear hK K; try simp only [nx])|(with_reducible first|refine aS fun K hK => ?_|refine aB ?_|apply And.intro|exact True.intro)|((first|((with_reducible show aol _ _ _ _ _); try first|(refine gT (by rfl) ?_ ?_; focus simp only [go_sem]; done)|refine gB (by rfl) (by rfl) (fun h => ?_) (fun h => ?_) <;> (try simp only [hsX, reduceCtorEq] at h))|((with_reducible show Awp _ _ (Code.region _ _ _) _ _); first|refine rK (by repeat constructor) (fun K hK => ?_)|(refine dK (by kernel_rfl) (by repeat constructor) (fun K hK => ?_)))) <;> simp (maxSteps := 2000000) (disch := omega) only [go_sem, ↓reduceIte, Nat.reduceEqDiff, Nat.reduceAdd, Nat.reduceLT, Nat.reduceLeDiff, Nat.reduceSub, tDrF, tBel, tPkI, pr_eta, fX, fT])|((with_reducible show Awp _ _ (Code.cond _ _ _) _ _); refine aC rfl (fun h => ?_) (fun h => ?_) <;> (try simp only [hsX, reduceCtorEq] at h))|((with_reducible first|refine aK ?_|refine aR ?_); simp only [nx])|((with_reducible refine aE ?_); simp only [nx, ne_eq, not_false_eq_true, Nat.reduceEqDiff, reduceCtorEq]; try ((repeat ((fail_if_success refine hK _ ?_); clear hK K)); refine hK _ ?_; clear hK K))|((with_reducible first|show List.all _ _ = true|show lendOk _ _ = true); rfl)|omega|((with_reducible first|show ¬ _|show _ → _); intro h; first|contradiction|cases h; done|skip)
      all_goals (try (first|refine fK ?_|refine fM ?_; repeat clear hK))
      rw [eG, eL, eS]
      exact finm_pairS (d := tPair) (j := 2) (b := 1) [0, 2] rfl rfl rfl rfl rfl rfl rfl rfl rfl
end Go.Proofs.YthoionlldmfpiaaGreat
