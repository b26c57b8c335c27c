import Derived.Test.YthoionlldmfpiaaGreatT30
import Derived.Test.YthoionlldmfpiaaGreatT15
import Derived.Test.YthoionlldmfpiaaGreatHs
import Derived.Test.YthoionlldmfpiaaGreatShB
set_option linter.unusedSimpArgs false
set_option linter.unusedVariables false
set_option maxHeartbeats 2000000
namespace Go.Proofs.YthoionlldmfpiaaGreat
open Go Go.Ab
attribute [local irreducible] aol
attribute [local irreducible] popN
def e4 (L : List Int) : Bool := L.all fun x => inR x 0 4
theorem half_all : ((List.range 64).all fun s => (List.range 7).all fun k => decide ((s / 2 ^ k) % 2 = if Nat.testBit s k then 1 else 0) && (!decide (s / 2 ^ k = 0) || decide (elL s k = elL s 6))) = true := by kernel_rfl
theorem half {s k : Nat} (hs : s < 64) (hk : k < 7) : ((s / 2 ^ k) % 2 = if Nat.testBit s k then 1 else 0) ∧ (s / 2 ^ k = 0 → elL s k = elL s 6) := by
  have := List.all_eq_true.1 (List.all_eq_true.1 half_all s (List.mem_range.2 hs)) k (List.mem_range.2 hk)
  rw [Bool.and_eq_true, decide_eq_true_eq, Bool.or_eq_true, Bool.not_eq_true', decide_eq_false_iff_not, decide_eq_true_eq] at this
  exact ⟨this.1, fun h => this.2.resolve_left fun h' => h' h⟩
def hfV (s k : Nat) : Nat := s / 2 ^ k
theorem hfV_half (s k : Nat) : hfV s k / 2 = hfV s (k + 1) := by unfold hfV; rw [Nat.pow_succ, Nat.div_div_eq_div_mul]
theorem list2_ok : Fits Tryz.prog 57 tElem := by
  refine ⟨callable_of Tryz.func57 (by kernel_rfl) rfl, ?_⟩
  intro args p out Ho h hp
  unfold tElem at h
  split at h <;> cases h
  rename_i s
  refine ⟨acall_by (env_ok (env := []) (by simp)) Tryz.func57 rfl rfl rfl rfl rfl ?_, rfl, rfl⟩
  intro hlen c hc hX
  simp only [lensOk, AV.lenOk, true_and, and_true] at hlen
  simp only [Tryz.ntmps57, Tryz.results57, lsA, List.replicate, Nat.reduceAdd, Nat.reduceSub]
  obtain ⟨s, rfl⟩ := Int.eq_ofNat_of_zero_le hp.1
  rw [Int.toNat_natCast]
  have hs : s < 64 := by omega
  repeat' first | ((with_reducible show aol _ _ _ _ _); first|(refine gF (by rfl) ?_ ?_; focus simp only [go_sem]; done)|(refine gU (by rfl) ?_ ?_; focus simp only [go_sem]; done))|((with_reducible refine hK _ ?_); clear hK K; try simp only [nx])|(with_reducible first|refine aS fun K hK => ?_|refine aB ?_|apply And.intro|exact True.intro)|((first|((with_reducible show aol _ _ _ _ _); try first|(refine gT (by rfl) ?_ ?_; focus simp only [go_sem]; done)|refine gB (by rfl) (by rfl) (fun h => ?_) (fun h => ?_) <;> (try simp only [hsX, reduceCtorEq] at h))|((with_reducible show Awp _ _ (Code.region _ _ _) _ _); first|refine rK (by repeat constructor) (fun K hK => ?_)|(refine dK (by kernel_rfl) (by repeat constructor) (fun K hK => ?_)))) <;> simp (maxSteps := 2000000) (disch := omega) only [go_sem, ↓reduceIte, Nat.reduceEqDiff, Nat.reduceAdd, Nat.reduceLT, Nat.reduceLeDiff, Nat.reduceSub])|((with_reducible show Awp _ _ (Code.cond _ _ _) _ _); refine aC rfl (fun h => ?_) (fun h => ?_) <;> (try simp only [hsX, reduceCtorEq] at h))|((with_reducible first|refine aK ?_|refine aR ?_); simp only [nx])|((with_reducible refine aE ?_); simp only [nx, ne_eq, not_false_eq_true, Nat.reduceEqDiff, reduceCtorEq]; try ((repeat ((fail_if_success refine hK _ ?_); clear hK K)); refine hK _ ?_; clear hK K))|((with_reducible first|show List.all _ _ = true|show lendOk _ _ = true); rfl)|omega|((with_reducible first|show ¬ _|show _ → _); intro h; first|contradiction|cases h; done|skip)
  all_goals (try (first|refine fK ?_|refine fM ?_; repeat clear hK))
  refine awp_forR 0 hX (fun st (k : Nat) => st.at [] [(3, .own 0), (4, .i k), (5, .i (hfV s k : Nat))] [.row .i64 3 (elL s k)]) (fun k => k ≤ 6) (fun k => 6 - k) 0 (Nat.zero_le _) ?_ ?_
  · exact ⟨[0], rfl, rfl, by simp [-List.getD_eq_getElem?_getD, -List.length_take, gdA, leFr, ASt.at, keepFr, updAll, upd_zero, upd_succ, AV.rnb, AV.rnb0, elL, hfV], by simp [-List.getD_eq_getElem?_getD, gdA, ASt.at, AO.rnb, AV.rnb0, upd_k0, upd_k1, upd_k2, upd_k3, elL, hfV], rfl, rfl⟩
  rintro k hk
  simp only [ASt.at, keepFr, updAll, upd_zero, upd_succ, lgA, Nat.reduceEqDiff, Nat.reduceAdd, ↓reduceIte, eq_self]
  have hel := elL_len s k
  obtain ⟨hh1, hh2⟩ := half (s := s) (k := k) hs (by omega)
  have hle : hfV s k ≤ s := Nat.div_le_self ..
  have hsr : ishr ((hfV s k : Nat) : Int) 1 = ((hfV s (k + 1) : Nat) : Int) := by rw [ishr_1, hfV_half]
  have han := iand_1 (x := hfV s k) (by omega)
  by_cases hz : hfV s k = 0
  · have hz' : ((hfV s k : Nat) : Int) = 0 := by rw [hz]; rfl
    repeat' first | ((with_reducible show aol _ _ _ _ _); first|(refine gF (by rfl) ?_ ?_; focus simp only [go_sem]; done)|(refine gU (by rfl) ?_ ?_; focus simp only [go_sem]; done))|((with_reducible refine hK _ ?_); clear hK K; try simp only [nx])|(with_reducible first|refine aS fun K hK => ?_|refine aB ?_|apply And.intro|exact True.intro)|((first|((with_reducible show aol _ _ _ _ _); try first|(refine gT (by rfl) ?_ ?_; focus simp only [go_sem]; done)|refine gB (by rfl) (by rfl) (fun h => ?_) (fun h => ?_) <;> (try simp only [hsX, reduceCtorEq] at h))|((with_reducible show Awp _ _ (Code.region _ _ _) _ _); first|refine rK (by repeat constructor) (fun K hK => ?_)|(refine dK (by kernel_rfl) (by repeat constructor) (fun K hK => ?_)))) <;> simp (maxSteps := 2000000) (disch := omega) only [go_sem, ↓reduceIte, Nat.reduceEqDiff, Nat.reduceAdd, Nat.reduceLT, Nat.reduceLeDiff, Nat.reduceSub, hz'])|((with_reducible show Awp _ _ (Code.cond _ _ _) _ _); refine aC rfl (fun h => ?_) (fun h => ?_) <;> (try simp only [hsX, reduceCtorEq] at h))|((with_reducible first|refine aK ?_|refine aR ?_); simp only [nx])|((with_reducible refine aE ?_); simp only [nx, ne_eq, not_false_eq_true, Nat.reduceEqDiff, reduceCtorEq]; try ((repeat ((fail_if_success refine hK _ ?_); clear hK K)); refine hK _ ?_; clear hK K))|((with_reducible first|show List.all _ _ = true|show lendOk _ _ = true); rfl)|omega|((with_reducible first|show ¬ _|show _ → _); intro h; first|contradiction|cases h; done|skip)
    all_goals (try (first|refine fK ?_|refine fM ?_; repeat clear hK))
    rw [← hh2 hz]; exact fin_own rfl rfl
  · have hk6 : k < 6 := by
      rcases Nat.lt_or_ge k 6 with h | h
      · exact h
      · obtain rfl : k = 6 := by omega
        exact absurd (Nat.div_eq_of_lt hs) hz
    cases hb : Nat.testBit s k with
    | true =>
      rw [hb, if_pos rfl] at hh1
      have hm : hfV s k % 2 = 1 := hh1
      rw [hm] at han
      repeat' first | ((with_reducible show aol _ _ _ _ _); first|(refine gF (by rfl) ?_ ?_; focus simp only [go_sem]; done)|(refine gU (by rfl) ?_ ?_; focus simp only [go_sem]; done))|((with_reducible refine hK _ ?_); clear hK K; try simp only [nx])|(with_reducible first|refine aS fun K hK => ?_|refine aB ?_|apply And.intro|exact True.intro)|((first|((with_reducible show aol _ _ _ _ _); try first|(refine gT (by rfl) ?_ ?_; focus simp only [go_sem]; done)|refine gB (by rfl) (by rfl) (fun h => ?_) (fun h => ?_) <;> (try simp only [hsX, reduceCtorEq] at h))|((with_reducible show Awp _ _ (Code.region _ _ _) _ _); first|refine rK (by repeat constructor) (fun K hK => ?_)|(refine dK (by kernel_rfl) (by repeat constructor) (fun K hK => ?_)))) <;> simp (maxSteps := 2000000) (disch := omega) only [go_sem, ↓reduceIte, Nat.reduceEqDiff, Nat.reduceAdd, Nat.reduceLT, Nat.reduceLeDiff, Nat.reduceSub, han, hsr])|((with_reducible show Awp _ _ (Code.cond _ _ _) _ _); refine aC rfl (fun h => ?_) (fun h => ?_) <;> (try simp only [hsX, reduceCtorEq] at h))|((with_reducible first|refine aK ?_|refine aR ?_); simp only [nx])|((with_reducible refine aE ?_); simp only [nx, ne_eq, not_false_eq_true, Nat.reduceEqDiff, reduceCtorEq]; try ((repeat ((fail_if_success refine hK _ ?_); clear hK K)); refine hK _ ?_; clear hK K))|((with_reducible first|show List.all _ _ = true|show lendOk _ _ = true); rfl)|omega|((with_reducible first|show ¬ _|show _ → _); intro h; first|contradiction|cases h; done|skip)
      all_goals (try (first|refine fK ?_|refine fM ?_; repeat clear hK))
      refine ⟨k + 1, by omega, by omega, ?_⟩
      rw [elL_yes hb]
      exact ⟨[2], rfl, rfl, by simp [-List.getD_eq_getElem?_getD, -List.length_take, gdA, leFr, ASt.at, keepFr, updAll, upd_zero, upd_succ, AV.rnb, AV.rnb0], by simp [-List.getD_eq_getElem?_getD, gdA, ASt.at, AO.rnb, AV.rnb0, upd_k0, upd_k1, upd_k2, upd_k3], rfl, rfl⟩
    | false =>
      rw [hb, if_neg (by decide)] at hh1
      have hm : hfV s k % 2 = 0 := hh1
      rw [hm] at han
      repeat' first | ((with_reducible show aol _ _ _ _ _); first|(refine gF (by rfl) ?_ ?_; focus simp only [go_sem]; done)|(refine gU (by rfl) ?_ ?_; focus simp only [go_sem]; done))|((with_reducible refine hK _ ?_); clear hK K; try simp only [nx])|(with_reducible first|refine aS fun K hK => ?_|refine aB ?_|apply And.intro|exact True.intro)|((first|((with_reducible show aol _ _ _ _ _); try first|(refine gT (by rfl) ?_ ?_; focus simp only [go_sem]; done)|refine gB (by rfl) (by rfl) (fun h => ?_) (fun h => ?_) <;> (try simp only [hsX, reduceCtorEq] at h))|((with_reducible show Awp _ _ (Code.region _ _ _) _ _); first|refine rK (by repeat constructor) (fun K hK => ?_)|(refine dK (by kernel_rfl) (by repeat constructor) (fun K hK => ?_)))) <;> simp (maxSteps := 2000000) (disch := omega) only [go_sem, ↓reduceIte, Nat.reduceEqDiff, Nat.reduceAdd, Nat.reduceLT, Nat.reduceLeDiff, Nat.reduceSub, han, hsr])|((with_reducible show Awp _ _ (Code.cond _ _ _) _ _); refine aC rfl (fun h => ?_) (fun h => ?_) <;> (try simp only [hsX, reduceCtorEq] at h))|((with_reducible first|refine aK ?_|refine aR ?_); simp only [nx])|((with_reducible refine aE ?_); simp only [nx, ne_eq, not_false_eq_true, Nat.reduceEqDiff, reduceCtorEq]; try ((repeat ((fail_if_success refine hK _ ?_); clear hK K)); refine hK _ ?_; clear hK K))|((with_reducible first|show List.all _ _ = true|show lendOk _ _ = true); rfl)|omega|((with_reducible first|show ¬ _|show _ → _); intro h; first|contradiction|cases h; done|skip)
      all_goals (try (first|refine fK ?_|refine fM ?_; repeat clear hK))
      refine ⟨k + 1, by omega, by omega, ?_⟩
      rw [elL_no hb]
      exact ⟨[0], rfl, rfl, by simp [-List.getD_eq_getElem?_getD, -List.length_take, gdA, leFr, ASt.at, keepFr, updAll, upd_zero, upd_succ, AV.rnb, AV.rnb0], by simp [-List.getD_eq_getElem?_getD, gdA, ASt.at, AO.rnb, AV.rnb0, upd_k0, upd_k1, upd_k2, upd_k3], rfl, rfl⟩
end Go.Proofs.YthoionlldmfpiaaGreat
namespace Go.Proofs.YthoionlldmfpiaaGreat
open Go Go.Ab
attribute [local irreducible] aol
attribute [local irreducible] popN
theorem mkL_get {f : Int → Int} {m k : Nat} (h : k < m) : (mkL f m).getD k 0 = f (k : Int) := by
  unfold mkL; rw [List.getD_eq_getElem?_getD, List.getElem?_map, List.getElem?_range h]; rfl
theorem sub_of {n : Int} {l : List Int} (hf : fnV n l = true) (h : ∀ s i k, s < l.length → i < k → k < n.toNat → Nat.testBit s i = false → Nat.testBit s k = false → excV l s i k ≤ 0) : subV n l = true := by
  have hn := (fnV_iff.1 hf).1
  have hlen := fnV_len hf
  have hp6 : 2 ^ n.toNat ≤ 32 := Nat.le_trans (Nat.pow_le_pow_right (by omega) (show n.toNat ≤ 5 by omega)) (by decide)
  have hv : vioV n l = none := by
    unfold vioV
    rw [seek2_none]
    intro s _ hs
    unfold vioS
    rw [Option.map_eq_none_iff, seek2_none]
    intro i _ hi
    unfold vioI
    rw [Option.map_eq_none_iff, seek_none]
    intro k hk1 hk2
    unfold vioP
    have b1 := ibit (s := s) (e := i) (by omega) (by omega)
    have b2 := ibit (s := s) (e := k) (by omega) (by omega)
    cases h1 : Nat.testBit s i with
    | true => rw [h1, if_pos rfl] at b1; rw [decide_eq_false (by omega), Bool.false_and]
    | false =>
      cases h2 : Nat.testBit s k with
      | true => rw [h2, if_pos rfl] at b2; rw [decide_eq_false (p := iand (ishr (s : Int) (k : Int)) 1 = 0) (by omega), Bool.false_and, Bool.and_false]
      | false =>
        have := h s i k (by omega) (by omega) (by omega) h1 h2
        rw [decide_eq_false (p := 0 < excV l s i k) (by omega), Bool.and_false, Bool.and_false]
  unfold subV vioB
  rw [hf, hv]; rfl
theorem or_swap (x y z : Nat) : x ||| y ||| z = x ||| z ||| y := by rw [Nat.or_assoc, Nat.or_comm y z, ← Nat.or_assoc]
end Go.Proofs.YthoionlldmfpiaaGreat
namespace Go.Proofs.YthoionlldmfpiaaGreat
open Go Go.Ab
attribute [local irreducible] aol
def putV : List Int → Int → List Int
  | [], n => [n]
  | x :: xs, n => if n < x then n :: x :: xs else if n = x then x :: xs else x :: putV xs n
theorem putV_mem {n y : Int} : ∀ {l : List Int}, y ∈ putV l n ↔ y = n ∨ y ∈ l
  | [] => by simp [putV]
  | x :: xs => by
    unfold putV
    split
    · simp
    · split
      · rename_i h; subst h; simp
      · rw [List.mem_cons, putV_mem, List.mem_cons]
        constructor
        · rintro (h | h | h)
          · exact .inr (.inl h)
          · exact .inl h
          · exact .inr (.inr h)
        · rintro (h | h | h)
          · exact .inr (.inl h)
          · exact .inl h
          · exact .inr (.inr h)
theorem putV_asc {n : Int} : ∀ {l : List Int}, l.Pairwise (· < ·) → (putV l n).Pairwise (· < ·)
  | [], _ => by simp [putV]
  | x :: xs, h => by
    rw [List.pairwise_cons] at h
    unfold putV
    split
    · rename_i hlt
      refine List.pairwise_cons.2 ⟨fun y hy => ?_, List.pairwise_cons.2 h⟩
      rw [List.mem_cons] at hy
      rcases hy with rfl | hy
      · exact hlt
      · have := h.1 y hy; omega
    · split
      · exact List.pairwise_cons.2 h
      · refine List.pairwise_cons.2 ⟨fun y hy => ?_, putV_asc h.2⟩
        rw [putV_mem] at hy
        rcases hy with rfl | hy
        · omega
        · exact h.1 y hy
theorem putV_in {n : Int} : ∀ {l : List Int}, l.Pairwise (· < ·) → n ∈ l → putV l n = l := fun hl hn =>
  asc_ext (putV_asc hl) hl fun x => by
    rw [putV_mem]
    constructor
    · rintro (rfl | h)
      · exact hn
      · exact h
    · exact .inr
end Go.Proofs.YthoionlldmfpiaaGreat
