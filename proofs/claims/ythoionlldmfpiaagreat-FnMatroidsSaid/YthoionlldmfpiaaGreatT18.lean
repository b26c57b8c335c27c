import Derived.Test.YthoionlldmfpiaaGreatT12
import Derived.Test.YthoionlldmfpiaaGreatHs
import Derived.Test.YthoionlldmfpiaaGreatT7
set_option linter.unusedSimpArgs false
set_option linter.unusedVariables false
set_option maxHeartbeats 2000000
namespace Go.Proofs.YthoionlldmfpiaaGreat
open Go Go.Ab
attribute [local irreducible] aol
def excV (l : List Int) (s i k : Nat) : Int := l.getD (s ||| 2 ^ i ||| 2 ^ k) 0 + l.getD s 0 - l.getD (s ||| 2 ^ i) 0 - l.getD (s ||| 2 ^ k) 0
def vioPre (l : List Int) (s i k : Int) : Prop := ∃ n : Int, fnV n l = true ∧ (0 ≤ s ∧ s < l.length) ∧ (0 ≤ i ∧ i < n) ∧ 0 ≤ k ∧ k < n
theorem or_or_bits (s x y : Nat) : (s ||| x) ||| (s ||| y) = s ||| x ||| y := by
  apply Nat.eq_of_testBit_eq
  intro i
  simp only [Nat.testBit_or]
  cases s.testBit i <;> cases x.testBit i <;> cases y.testBit i <;> rfl
def tExc : Tab
  | [.ag [.i _, .sl .i64 l], .i s, .i i, .i k] => some (vioPre l s i k, .i (excV l s.toNat i.toNat k.toNat), [])
  | _ => none
theorem exc_ok : Fits Tryz.prog 119 tExc := by
  refine ⟨callable_of Tryz.func119 (by kernel_rfl) rfl, ?_⟩
  intro args p out Ho h hp
  unfold tExc at h
  split at h <;> cases h
  rename_i n0 l s i k
  refine ⟨acall_by (env_ok (env := []) (by simp)) Tryz.func119 rfl rfl rfl rfl rfl ?_, rfl, rfl⟩
  intro hlen c hc hX
  simp only [lensOk, AV.lenOk, true_and, and_true] at hlen
  simp only [Tryz.ntmps119, Tryz.results119, lsA, List.replicate, Nat.reduceAdd, Nat.reduceSub]
  obtain ⟨n, hf, hs, hi, hk⟩ := hp
  have hlen2 := fnV_len hf
  rw [fnV_iff] at hf
  obtain ⟨s, rfl⟩ := Int.eq_ofNat_of_zero_le hs.1
  obtain ⟨i, rfl⟩ := Int.eq_ofNat_of_zero_le hi.1
  obtain ⟨k, rfl⟩ := Int.eq_ofNat_of_zero_le hk.1
  have hu1 := u64_id (n := (i : Int)) (by omega) (by omega)
  have hu2 := u64_id (n := (k : Int)) (by omega) (by omega)
  have a1 := ior_bit (s := s) (i := i) (m := n.toNat) (by omega) (by omega) (by omega)
  have a2 := ior_bit (s := s) (i := k) (m := n.toNat) (by omega) (by omega) (by omega)
  have l1 := or_lt (s := s) (i := i) (m := n.toNat) (by omega) (by omega)
  have l2 := or_lt (s := s) (i := k) (m := n.toNat) (by omega) (by omega)
  have p5 := pow5 (m := n.toNat) (by omega)
  have a3 := ior_nat (a := s ||| 2 ^ i) (b := s ||| 2 ^ k) (by omega) (by omega)
  rw [or_or_bits] at a3
  have l3 : s ||| 2 ^ i ||| 2 ^ k < 2 ^ n.toNat := or_lt l1 (by omega)
  have b1 := getD_bd hf.2.2 s
  have b2 := getD_bd hf.2.2 (s ||| 2 ^ i)
  have b3 := getD_bd hf.2.2 (s ||| 2 ^ k)
  have b4 := getD_bd hf.2.2 (s ||| 2 ^ i ||| 2 ^ k)
  repeat' first | ((with_reducible show aol _ _ _ _ _); first|(refine gF (by rfl) ?_ ?_; focus simp only [go_sem]; done)|(refine gU (by rfl) ?_ ?_; focus simp only [go_sem]; done))|((with_reducible refine hK _ ?_); clear hK K; try simp only [nx])|(with_reducible first|refine aS fun K hK => ?_|refine aB ?_|apply And.intro|exact True.intro)|((first|((with_reducible show aol _ _ _ _ _); try first|(refine gT (by rfl) ?_ ?_; focus simp only [go_sem]; done)|refine gB (by rfl) (by rfl) (fun h => ?_) (fun h => ?_) <;> (try simp only [hsX, reduceCtorEq] at h))|((with_reducible show Awp _ _ (Code.region _ _ _) _ _); first|refine rK (by repeat constructor) (fun K hK => ?_)|(refine dK (by kernel_rfl) (by repeat constructor) (fun K hK => ?_)))) <;> simp (maxSteps := 2000000) (disch := omega) only [go_sem, ↓reduceIte, Nat.reduceEqDiff, Nat.reduceAdd, Nat.reduceLT, Nat.reduceLeDiff, Nat.reduceSub, hu1, hu2, a1, a2, a3])|((with_reducible show Awp _ _ (Code.cond _ _ _) _ _); refine aC rfl (fun h => ?_) (fun h => ?_) <;> (try simp only [hsX, reduceCtorEq] at h))|((with_reducible first|refine aK ?_|refine aR ?_); simp only [nx])|((with_reducible refine aE ?_); simp only [nx, ne_eq, not_false_eq_true, Nat.reduceEqDiff, reduceCtorEq]; try ((repeat ((fail_if_success refine hK _ ?_); clear hK K)); refine hK _ ?_; clear hK K))|((with_reducible first|show List.all _ _ = true|show lendOk _ _ = true); rfl)|omega|((with_reducible first|show ¬ _|show _ → _); intro h; first|contradiction|cases h; done|skip)
  all_goals (try (first|refine fK ?_|refine fM ?_; repeat clear hK))
  refine fin_tmp rfl ?_; simp only [nth_zero, nth_succ, Int.toNat_natCast, excV]
def tBad : Tab
  | [.sl .i64 l, .i s, .i i, .i k] => some (vioPre l s i k, .b (decide (0 < excV l s.toNat i.toNat k.toNat)), [])
  | _ => none
theorem bad_ok : Fits Tryz.prog 124 tBad := by
  refine ⟨callable_of Tryz.func124 (by kernel_rfl) rfl, ?_⟩
  intro args p out Ho h hp
  unfold tBad at h
  split at h <;> cases h
  rename_i l s i k
  refine ⟨acall_by (env_ok (env := []) (by simp)) Tryz.func124 rfl rfl rfl rfl rfl ?_, rfl, rfl⟩
  intro hlen c hc hX
  simp only [lensOk, AV.lenOk, true_and, and_true] at hlen
  simp only [Tryz.ntmps124, Tryz.results124, lsA, List.replicate, Nat.reduceAdd, Nat.reduceSub]
  obtain ⟨n, hf, hs, hi, hk⟩ := hp
  have hlen2 := fnV_len hf
  rw [fnV_iff] at hf
  obtain ⟨s, rfl⟩ := Int.eq_ofNat_of_zero_le hs.1
  obtain ⟨i, rfl⟩ := Int.eq_ofNat_of_zero_le hi.1
  obtain ⟨k, rfl⟩ := Int.eq_ofNat_of_zero_le hk.1
  have a1 := ior_bit (s := s) (i := i) (m := n.toNat) (by omega) (by omega) (by omega)
  have a2 := ior_bit (s := s) (i := k) (m := n.toNat) (by omega) (by omega) (by omega)
  have l1 := or_lt (s := s) (i := i) (m := n.toNat) (by omega) (by omega)
  have l2 := or_lt (s := s) (i := k) (m := n.toNat) (by omega) (by omega)
  have a3 := ior_bit (s := s ||| 2 ^ i) (i := k) (m := n.toNat) l1 (by omega) (by omega)
  have l3 : s ||| 2 ^ i ||| 2 ^ k < 2 ^ n.toNat := or_lt l1 (by omega)
  have b1 := getD_bd hf.2.2 s
  have b2 := getD_bd hf.2.2 (s ||| 2 ^ i)
  have b3 := getD_bd hf.2.2 (s ||| 2 ^ k)
  have b4 := getD_bd hf.2.2 (s ||| 2 ^ i ||| 2 ^ k)
  repeat' first | ((with_reducible show aol _ _ _ _ _); first|(refine gF (by rfl) ?_ ?_; focus simp only [go_sem]; done)|(refine gU (by rfl) ?_ ?_; focus simp only [go_sem]; done))|((with_reducible refine hK _ ?_); clear hK K; try simp only [nx])|(with_reducible first|refine aS fun K hK => ?_|refine aB ?_|apply And.intro|exact True.intro)|((first|((with_reducible show aol _ _ _ _ _); try first|(refine gT (by rfl) ?_ ?_; focus simp only [go_sem]; done)|refine gB (by rfl) (by rfl) (fun h => ?_) (fun h => ?_) <;> (try simp only [hsX, reduceCtorEq] at h))|((with_reducible show Awp _ _ (Code.region _ _ _) _ _); first|refine rK (by repeat constructor) (fun K hK => ?_)|(refine dK (by kernel_rfl) (by repeat constructor) (fun K hK => ?_)))) <;> simp (maxSteps := 2000000) (disch := omega) only [go_sem, ↓reduceIte, Nat.reduceEqDiff, Nat.reduceAdd, Nat.reduceLT, Nat.reduceLeDiff, Nat.reduceSub, a1, a2, a3])|((with_reducible show Awp _ _ (Code.cond _ _ _) _ _); refine aC rfl (fun h => ?_) (fun h => ?_) <;> (try simp only [hsX, reduceCtorEq] at h))|((with_reducible first|refine aK ?_|refine aR ?_); simp only [nx])|((with_reducible refine aE ?_); simp only [nx, ne_eq, not_false_eq_true, Nat.reduceEqDiff, reduceCtorEq]; try ((repeat ((fail_if_success refine hK _ ?_); clear hK K)); refine hK _ ?_; clear hK K))|((with_reducible first|show List.all _ _ = true|show lendOk _ _ = true); rfl)|omega|((with_reducible first|show ¬ _|show _ → _); intro h; first|contradiction|cases h; done|skip)
  all_goals (try (first|refine fK ?_|refine fM ?_; repeat clear hK))
  refine fin_tmp rfl ?_; simp only [nth_zero, nth_succ, Int.toNat_natCast]; rw [AV.b.injEq, decide_eq_decide]; unfold excV; omega
def vioP (l : List Int) (s i k : Nat) : Bool := decide (iand (ishr s i) 1 = 0) && (decide (iand (ishr s k) 1 = 0) && decide (0 < excV l s i k))
def vioI (n : Int) (l : List Int) (s i : Nat) : Option (Nat × Nat) := (seek (vioP l s i) (n.toNat - (i + 1)) (i + 1)).map (i, ·)
def vioS (n : Int) (l : List Int) (s : Nat) : Option (Nat × Nat × Nat) := (seek2 (vioI n l s) n.toNat 0).map (s, ·)
def vioV (n : Int) (l : List Int) : Option (Nat × Nat × Nat) := seek2 (vioS n l) l.length 0
def rowV : Option (Nat × Nat × Nat) → List Int
  | some (s, i, k) => [(s : Int), (i : Int), (k : Int)]
  | none => []
def vioR (n : Int) (l : List Int) : List Int := if fnV n l then rowV (vioV n l) else []
def vioB (n : Int) (l : List Int) : Bool := fnV n l && (vioV n l).isSome
theorem fin_ownbV {C : Cfg} {t u : Tmp} {j : Nat} {k : IntKind} {E : TypeId} {l : List Int} {x : Bool} {s : ASt} (h : nth s.fr t = .own j) (hh : s.hp[j]? = some (.row k E l)) (hu : nth s.fr u = .b x) : FinS C [.tmp t, .tmp u] (.tu [.own 0, .b x]) [.row k E l] s :=
  ⟨s, Wk.refl s, _, _, rfl, ⟨trivial, trivial, trivial⟩, [j], by simp, by rw [h, hu]; rfl, by simp [hh, AO.ren]⟩
theorem vio_some {n : Int} {l : List Int} {x : Nat × Nat × Nat} (hg : fnV n l = true) (h : vioV n l = some x) : vioR n l = rowV (some x) ∧ vioB n l = true := by unfold vioR vioB; rw [hg, h]; exact ⟨rfl, rfl⟩
theorem vio_none {n : Int} {l : List Int} (h : vioV n l = none) : vioR n l = [] ∧ vioB n l = false := by
  unfold vioR vioB; rw [h]; cases fnV n l <;> exact ⟨rfl, rfl⟩
theorem vio_nofn {n : Int} {l : List Int} (h : fnV n l = false) : vioR n l = [] ∧ vioB n l = false := by unfold vioR vioB; rw [h]; exact ⟨rfl, rfl⟩
def tVio : Tab
  | [.ag [.i n, .sl .i64 l]] => some (True, .tu [.own 0, .b (vioB n l)], [.row .i64 3 (vioR n l)])
  | _ => none
theorem specVio_ok : Fits Tryz.prog 116 tVio := by
  refine ⟨callable_of Tryz.func116 (by kernel_rfl) rfl, ?_⟩
  intro args p out Ho h hp
  unfold tVio at h
  split at h <;> cases h
  rename_i n l
  refine ⟨acall_by (env_ok (env := [(80, tIsFn), (124, tBad)]) (by simp only [fmA, and_true]; exact ⟨specIsFn_ok, bad_ok⟩)) Tryz.func116 rfl rfl rfl rfl rfl ?_, rfl, rfl⟩
  intro hlen c hc hX
  simp only [lensOk, AV.lenOk, true_and, and_true] at hlen
  simp only [Tryz.ntmps116, Tryz.results116, lsA, List.replicate, Nat.reduceAdd, Nat.reduceSub]
  repeat' first | ((with_reducible show aol _ _ _ _ _); first|(refine gF (by rfl) ?_ ?_; focus simp only [go_sem]; done)|(refine gU (by rfl) ?_ ?_; focus simp only [go_sem]; done))|((with_reducible refine hK _ ?_); clear hK K; try simp only [nx])|(with_reducible first|refine aS fun K hK => ?_|refine aB ?_|apply And.intro|exact True.intro)|((first|((with_reducible show aol _ _ _ _ _); try first|(refine gT (by rfl) ?_ ?_; focus simp only [go_sem]; done)|refine gB (by rfl) (by rfl) (fun h => ?_) (fun h => ?_) <;> (try simp only [hsX, reduceCtorEq] at h))|((with_reducible show Awp _ _ (Code.region _ _ _) _ _); first|refine rK (by repeat constructor) (fun K hK => ?_)|(refine dK (by kernel_rfl) (by repeat constructor) (fun K hK => ?_)))) <;> simp (maxSteps := 2000000) (disch := omega) only [go_sem, ↓reduceIte, Nat.reduceEqDiff, Nat.reduceAdd, Nat.reduceLT, Nat.reduceLeDiff, Nat.reduceSub, tIsFn])|((with_reducible show Awp _ _ (Code.cond _ _ _) _ _); refine aC rfl (fun h => ?_) (fun h => ?_) <;> (try simp only [hsX, reduceCtorEq] at h))|((with_reducible first|refine aK ?_|refine aR ?_); simp only [nx])|((with_reducible refine aE ?_); simp only [nx, ne_eq, not_false_eq_true, Nat.reduceEqDiff, reduceCtorEq]; try ((repeat ((fail_if_success refine hK _ ?_); clear hK K)); refine hK _ ?_; clear hK K))|((with_reducible first|show List.all _ _ = true|show lendOk _ _ = true); rfl)|omega|((with_reducible first|show ¬ _|show _ → _); intro h; first|contradiction|cases h; done|skip)
  all_goals (try (first|refine fK ?_|refine fM ?_; repeat clear hK))
  refine awp_forR 0 hX (fun st (s : Nat) => st.at [1] [(4, .i s)] [.box 26 [.i n, .sl .i64 l]]) (fun s => s ≤ l.length ∧ vioV n l = seek2 (vioS n l) (l.length - s) s) (fun s => l.length - s) 0 ⟨by omega, rfl⟩ ?_ ?_
  · exact ⟨[0], rfl, rfl, by simp [-List.getD_eq_getElem?_getD, -List.length_take, gdA, leFr, ASt.at, keepFr, updAll, upd_zero, upd_succ, AV.rnb, AV.rnb0], by simp [-List.getD_eq_getElem?_getD, gdA, ASt.at, AO.rnb, AV.rnb0, upd_k0, upd_k1, upd_k2, upd_k3], rfl, rfl⟩
  rintro s ⟨hs, ha⟩
  simp only [ASt.at, keepFr, updAll, upd_zero, upd_succ, lgA, Nat.reduceEqDiff, Nat.reduceAdd, ↓reduceIte, eq_self]
  repeat' first | ((with_reducible show aol _ _ _ _ _); first|(refine gF (by rfl) ?_ ?_; focus simp only [go_sem]; done)|(refine gU (by rfl) ?_ ?_; focus simp only [go_sem]; done))|((with_reducible refine hK _ ?_); clear hK K; try simp only [nx])|(with_reducible first|refine aS fun K hK => ?_|refine aB ?_|apply And.intro|exact True.intro)|((first|((with_reducible show aol _ _ _ _ _); try first|(refine gT (by rfl) ?_ ?_; focus simp only [go_sem]; done)|refine gB (by rfl) (by rfl) (fun h => ?_) (fun h => ?_) <;> (try simp only [hsX, reduceCtorEq] at h))|((with_reducible show Awp _ _ (Code.region _ _ _) _ _); first|refine rK (by repeat constructor) (fun K hK => ?_)|(refine dK (by kernel_rfl) (by repeat constructor) (fun K hK => ?_)))) <;> simp (maxSteps := 2000000) (disch := omega) only [go_sem, ↓reduceIte, Nat.reduceEqDiff, Nat.reduceAdd, Nat.reduceLT, Nat.reduceLeDiff, Nat.reduceSub, tIsFn])|((with_reducible show Awp _ _ (Code.cond _ _ _) _ _); refine aC rfl (fun h => ?_) (fun h => ?_) <;> (try simp only [hsX, reduceCtorEq] at h))|((with_reducible first|refine aK ?_|refine aR ?_); simp only [nx])|((with_reducible refine aE ?_); simp only [nx, ne_eq, not_false_eq_true, Nat.reduceEqDiff, reduceCtorEq]; try ((repeat ((fail_if_success refine hK _ ?_); clear hK K)); refine hK _ ?_; clear hK K))|((with_reducible first|show List.all _ _ = true|show lendOk _ _ = true); rfl)|omega|((with_reducible first|show ¬ _|show _ → _); intro h; first|contradiction|cases h; done|skip)
  all_goals (try (first|refine fK ?_|refine fM ?_; repeat clear hK))
  · have hg : fnV n l = true := by assumption
    have hlen2 := fnV_len hg
    have hf := fnV_iff.1 hg
    rw [seek2_at (by omega)] at ha
    refine awp_for (fun st (i : Nat) => st.at [1, 4] [(5, .i i)] st.hp) (fun i => i ≤ n.toNat ∧ seek2 (vioI n l s) n.toNat 0 = seek2 (vioI n l s) (n.toNat - i) i) (fun i => n.toNat - i) 0 ⟨by omega, rfl⟩ ?_ ?_
    · simp [-List.getD_eq_getElem?_getD, -List.length_take, Le, leFr, ASt.at, keepFr, updAll, upd_zero, upd_succ]
    rintro i ⟨hi, hb⟩
    simp only [ASt.at, keepFr, updAll, upd_zero, upd_succ, lgA, Nat.reduceEqDiff, Nat.reduceAdd, ↓reduceIte, eq_self]
    repeat' first | ((with_reducible show aol _ _ _ _ _); first|(refine gF (by rfl) ?_ ?_; focus simp only [go_sem]; done)|(refine gU (by rfl) ?_ ?_; focus simp only [go_sem]; done))|((with_reducible refine hK _ ?_); clear hK K; try simp only [nx])|(with_reducible first|refine aS fun K hK => ?_|refine aB ?_|apply And.intro|exact True.intro)|((first|((with_reducible show aol _ _ _ _ _); try first|(refine gT (by rfl) ?_ ?_; focus simp only [go_sem]; done)|refine gB (by rfl) (by rfl) (fun h => ?_) (fun h => ?_) <;> (try simp only [hsX, reduceCtorEq] at h))|((with_reducible show Awp _ _ (Code.region _ _ _) _ _); first|refine rK (by repeat constructor) (fun K hK => ?_)|(refine dK (by kernel_rfl) (by repeat constructor) (fun K hK => ?_)))) <;> simp (maxSteps := 2000000) (disch := omega) only [go_sem, ↓reduceIte, Nat.reduceEqDiff, Nat.reduceAdd, Nat.reduceLT, Nat.reduceLeDiff, Nat.reduceSub, tIsFn])|((with_reducible show Awp _ _ (Code.cond _ _ _) _ _); refine aC rfl (fun h => ?_) (fun h => ?_) <;> (try simp only [hsX, reduceCtorEq] at h))|((with_reducible first|refine aK ?_|refine aR ?_); simp only [nx])|((with_reducible refine aE ?_); simp only [nx, ne_eq, not_false_eq_true, Nat.reduceEqDiff, reduceCtorEq]; try ((repeat ((fail_if_success refine hK _ ?_); clear hK K)); refine hK _ ?_; clear hK K))|((with_reducible first|show List.all _ _ = true|show lendOk _ _ = true); rfl)|omega|((with_reducible first|show ¬ _|show _ → _); intro h; first|contradiction|cases h; done|skip)
    all_goals (try (first|refine fK ?_|refine fM ?_; repeat clear hK))
    · rw [seek2_at (by omega)] at hb
      refine awp_for (fun st (k : Nat) => st.at [1, 4, 5] [(6, .i k)] st.hp) (fun k => i < k ∧ k ≤ n.toNat ∧ seek (vioP l s i) (n.toNat - (i + 1)) (i + 1) = seek (vioP l s i) (n.toNat - k) k) (fun k => n.toNat - k) (i + 1) ⟨by omega, by omega, rfl⟩ ?_ ?_
      · simp [-List.getD_eq_getElem?_getD, -List.length_take, Le, leFr, ASt.at, keepFr, updAll, upd_zero, upd_succ]
      rintro k ⟨hk1, hk, hc2⟩
      simp only [ASt.at, keepFr, updAll, upd_zero, upd_succ, lgA, Nat.reduceEqDiff, Nat.reduceAdd, ↓reduceIte, eq_self]
      have hvp : (k : Int) < n → vioPre l (s : Int) (i : Int) (k : Int) = True := fun h => eq_true ⟨n, hg, by omega, by omega, by omega⟩
      repeat' first | ((with_reducible show aol _ _ _ _ _); first|(refine gF (by rfl) ?_ ?_; focus simp only [go_sem]; done)|(refine gU (by rfl) ?_ ?_; focus simp only [go_sem]; done))|((with_reducible refine hK _ ?_); clear hK K; try simp only [nx])|(with_reducible first|refine aS fun K hK => ?_|refine aB ?_|apply And.intro|exact True.intro)|((first|((with_reducible show aol _ _ _ _ _); try first|(refine gT (by rfl) ?_ ?_; focus simp only [go_sem]; done)|refine gB (by rfl) (by rfl) (fun h => ?_) (fun h => ?_) <;> (try simp only [hsX, reduceCtorEq] at h))|((with_reducible show Awp _ _ (Code.region _ _ _) _ _); first|refine rK (by repeat constructor) (fun K hK => ?_)|(refine dK (by kernel_rfl) (by repeat constructor) (fun K hK => ?_)))) <;> simp (maxSteps := 2000000) (disch := omega) only [go_sem, ↓reduceIte, Nat.reduceEqDiff, Nat.reduceAdd, Nat.reduceLT, Nat.reduceLeDiff, Nat.reduceSub, tBad, hvp])|((with_reducible show Awp _ _ (Code.cond _ _ _) _ _); refine aC rfl (fun h => ?_) (fun h => ?_) <;> (try simp only [hsX, reduceCtorEq] at h))|((with_reducible first|refine aK ?_|refine aR ?_); simp only [nx])|((with_reducible refine aE ?_); simp only [nx, ne_eq, not_false_eq_true, Nat.reduceEqDiff, reduceCtorEq]; try ((repeat ((fail_if_success refine hK _ ?_); clear hK K)); refine hK _ ?_; clear hK K))|((with_reducible first|show List.all _ _ = true|show lendOk _ _ = true); rfl)|omega|((with_reducible first|show ¬ _|show _ → _); intro h; first|contradiction|cases h; done|skip)
      all_goals (try (first|refine fK ?_|refine fM ?_; repeat clear hK))
      · rename_i h1 h2
        have hv : vioP l s i k = true := by unfold vioP; rw [decide_eq_true h1, decide_eq_true h2, decide_eq_true h]; rfl
        rw [seek_at (m := n.toNat) (k := k) (by omega), if_pos hv] at hc2
        have hi' : vioI n l s i = some (i, k) := by unfold vioI; rw [hc2]; rfl
        rw [hi'] at hb
        simp only at hb
        have hs' : vioS n l s = some (s, i, k) := by unfold vioS; rw [hb]; rfl
        rw [hs'] at ha
        simp only at ha
        have hr := vio_some hg ha
        rw [hr.1, hr.2]; exact fin_ownbV rfl rfl rfl
      · have hv : vioP l s i k = false := Bool.eq_false_iff.2 fun hv => by
          simp only [vioP, Bool.and_eq_true, decide_eq_true_eq] at hv
          first | exact absurd hv.1 (by assumption) | exact absurd hv.2.1 (by assumption) | (have := hv.2.2; omega)
        rw [seek_at (m := n.toNat) (k := k) (by omega), if_neg (by rw [hv]; decide)] at hc2
        refine ⟨k + 1, ⟨by omega, by omega, hc2⟩, by omega, ?_⟩
        simp [-List.getD_eq_getElem?_getD, -List.length_take, Le, leFr, ASt.at, keepFr, updAll, upd_zero, upd_succ]
      · have hv : vioP l s i k = false := Bool.eq_false_iff.2 fun hv => by
          simp only [vioP, Bool.and_eq_true, decide_eq_true_eq] at hv
          first | exact absurd hv.1 (by assumption) | exact absurd hv.2.1 (by assumption) | (have := hv.2.2; omega)
        rw [seek_at (m := n.toNat) (k := k) (by omega), if_neg (by rw [hv]; decide)] at hc2
        refine ⟨k + 1, ⟨by omega, by omega, hc2⟩, by omega, ?_⟩
        simp [-List.getD_eq_getElem?_getD, -List.length_take, Le, leFr, ASt.at, keepFr, updAll, upd_zero, upd_succ]
      · have hv : vioP l s i k = false := Bool.eq_false_iff.2 fun hv => by
          simp only [vioP, Bool.and_eq_true, decide_eq_true_eq] at hv
          first | exact absurd hv.1 (by assumption) | exact absurd hv.2.1 (by assumption) | (have := hv.2.2; omega)
        rw [seek_at (m := n.toNat) (k := k) (by omega), if_neg (by rw [hv]; decide)] at hc2
        refine ⟨k + 1, ⟨by omega, by omega, hc2⟩, by omega, ?_⟩
        simp [-List.getD_eq_getElem?_getD, -List.length_take, Le, leFr, ASt.at, keepFr, updAll, upd_zero, upd_succ]
      · obtain rfl : k = n.toNat := by omega
        rw [Nat.sub_self] at hc2
        have hi' : vioI n l s i = none := by unfold vioI; rw [hc2]; rfl
        rw [hi'] at hb
        simp only at hb
        refine ⟨i + 1, ⟨by omega, hb⟩, by omega, ?_⟩
        simp [-List.getD_eq_getElem?_getD, -List.length_take, Le, leFr, ASt.at, keepFr, updAll, upd_zero, upd_succ]
    · obtain rfl : i = n.toNat := by omega
      rw [Nat.sub_self] at hb
      have hs' : vioS n l s = none := by unfold vioS; rw [hb]; rfl
      rw [hs'] at ha
      simp only at ha
      refine ⟨s + 1, ⟨by omega, ha⟩, by omega, ?_⟩
      exact ⟨[0], rfl, rfl, by simp [-List.getD_eq_getElem?_getD, -List.length_take, gdA, leFr, ASt.at, keepFr, updAll, upd_zero, upd_succ, AV.rnb, AV.rnb0], by simp [-List.getD_eq_getElem?_getD, gdA, ASt.at, AO.rnb, AV.rnb0, upd_k0, upd_k1, upd_k2, upd_k3], rfl, rfl⟩
  · obtain rfl : s = l.length := by omega
    rw [Nat.sub_self] at ha
    have hr := vio_none ha
    rw [hr.1, hr.2]; exact fin_ownbV rfl rfl rfl
  · have hr := vio_nofn (l := l) (n := n) (by assumption)
    rw [hr.1, hr.2]; exact fin_ownbV rfl rfl rfl
end Go.Proofs.YthoionlldmfpiaaGreat
