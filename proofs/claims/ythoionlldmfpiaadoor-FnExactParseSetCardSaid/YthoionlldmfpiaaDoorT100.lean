import Derived.Test.YthoionlldmfpiaaDoorShT
import Derived.Test.YthoionlldmfpiaaDoorHs
import Derived.Test.YthoionlldmfpiaaDoorSet
set_option linter.unusedSimpArgs false
set_option linter.unusedVariables false
set_option maxHeartbeats 2000000
namespace Go.Proofs.YthoionlldmfpiaaDoor
open Go Go.Ab
attribute [local irreducible] aol
def dd (u : Nat) : List UInt8 := if u = 0 then [] else Lib.decDigits u
theorem dd_step {u : Nat} (h : u ≠ 0) : dd u = dd (u / 10) ++ [UInt8.ofNat (48 + u % 10)] := by
  unfold dd
  rw [if_neg h, Lib.decDigits]
  split
  · rename_i h'
    rw [if_pos (by omega), Nat.mod_eq_of_lt h']; rfl
  · rename_i h'
    rw [if_neg (by omega)]
theorem dd_len : ∀ (k u : Nat), u < 10 ^ k → (dd u).length ≤ k
  | 0, u, h => by
    have : u = 0 := by simp at h; omega
    subst this; simp [dd]
  | k + 1, u, h => by
    by_cases h0 : u = 0
    · subst h0; simp [dd]
    · rw [dd_step h0, List.length_append]
      have := dd_len k (u / 10) (by rw [Nat.pow_succ] at h; omega)
      simp; omega
theorem dec_dd {u : Nat} (h : u ≠ 0) : Lib.decDigits u = dd u := by unfold dd; rw [if_neg h]
theorem dec_zero : Lib.decDigits 0 = [48] := by rw [Lib.decDigits_one (by omega)]; rfl
theorem itoa_nat (u : Nat) : Lib.itoa (u : Int) = Lib.decDigits u := by unfold Lib.itoa; rw [if_neg (by omega)]; rfl
theorem itoa_neg {u : Nat} (h : u ≠ 0) : Lib.itoa (-(u : Int)) = 45 :: dd u := by
  unfold Lib.itoa
  rw [if_pos (by omega), ← dec_dd h]
  congr 2
  omega
theorem tmod_nat (m : Nat) : Int.tmod (m : Int) 10 = ((m % 10 : Nat) : Int) := rfl
theorem tdiv_nat (m : Nat) : Int.tdiv (m : Int) 10 = ((m / 10 : Nat) : Int) := rfl
theorem tmod_neg (m : Nat) : Int.tmod (-(m : Int)) 10 = -((m % 10 : Nat) : Int) := by rw [Int.neg_tmod]; rfl
theorem tdiv_neg (m : Nat) : Int.tdiv (-(m : Int)) 10 = -((m / 10 : Nat) : Int) := by rw [Int.neg_tdiv]; rfl
theorem str_eq {a b : List UInt8} (h : a = b) : AV.v (.string ⟨List.toArray a⟩) = .v (.string ⟨List.toArray b⟩) := by rw [h]
theorem specFmt_ok : Fits Tryd.prog 23 tItoa := by
  refine ⟨callable_of Tryd.func23 (by kernel_rfl) rfl, ?_⟩
  intro args p out Ho h hp
  unfold tItoa at h
  split at h <;> cases h
  rename_i n
  refine ⟨acall_by (env_ok (env := []) (by simp)) Tryd.func23 rfl rfl rfl rfl rfl ?_, rfl, rfl⟩
  intro hlen c hc hX
  simp only [lensOk, AV.lenOk, true_and, and_true] at hlen
  simp only [Tryd.ntmps23, Tryd.results23, lsA, List.replicate, Nat.reduceAdd, Nat.reduceSub]
  rcases Int.lt_or_le n 0 with hn | hn
  · obtain ⟨u, rfl⟩ : ∃ u : Nat, n = -(u : Int) := ⟨n.natAbs, by omega⟩
    have hu : u ≤ 9223372036854775808 := by omega
    have hu0 : u ≠ 0 := by omega
    have hlu := dd_len 20 u (by omega)
    repeat' first | ((with_reducible show aol _ _ _ _ _); first|(refine gF (by rfl) ?_ ?_; focus simp only [go_sem]; done)|(refine gU (by rfl) ?_ ?_; focus simp only [go_sem]; done))|((with_reducible refine hK _ ?_); clear hK K; try simp only [nx])|(with_reducible first|refine aS fun K hK => ?_|refine aB ?_|apply And.intro|exact True.intro)|((first|((with_reducible show aol _ _ _ _ _); try first|(refine gT (by rfl) ?_ ?_; focus simp only [go_sem]; done)|refine gB (by rfl) (by rfl) (fun h => ?_) (fun h => ?_) <;> (try simp only [hsX, reduceCtorEq] at h))|((with_reducible show Awp _ _ (Code.region _ _ _) _ _); first|refine rK (by repeat constructor) (fun K hK => ?_)|(refine dK (by kernel_rfl) (by repeat constructor) (fun K hK => ?_)))) <;> simp (maxSteps := 2000000) (disch := omega) only [go_sem, ↓reduceIte, Nat.reduceEqDiff, Nat.reduceAdd, Nat.reduceLT, Nat.reduceLeDiff, Nat.reduceSub])|((with_reducible show Awp _ _ (Code.cond _ _ _) _ _); refine aC rfl (fun h => ?_) (fun h => ?_) <;> (try simp only [hsX, reduceCtorEq] at h))|((with_reducible first|refine aK ?_|refine aR ?_); simp only [nx])|((with_reducible refine aE ?_); simp only [nx, ne_eq, not_false_eq_true, Nat.reduceEqDiff, reduceCtorEq]; try ((repeat ((fail_if_success refine hK _ ?_); clear hK K)); refine hK _ ?_; clear hK K))|((with_reducible first|show List.all _ _ = true|show lendOk _ _ = true); rfl)|omega|((with_reducible first|show ¬ _|show _ → _); intro h; first|contradiction|cases h; done|skip)
    all_goals (try (first|refine fK ?_|refine fM ?_; repeat clear hK))
    refine awp_forR 0 hX (fun s (i : Nat × List UInt8) => s.at [4] [(0, .i (-(i.1 : Int))), (3, .v (.string ⟨List.toArray i.2⟩))] []) (fun i => dd i.1 ++ i.2 = dd u ∧ i.1 ≤ u) (fun i => i.1) (u, []) ⟨by simp, Nat.le_refl _⟩ ?_ ?_
    · exact ⟨[], rfl, rfl, by simp [-List.getD_eq_getElem?_getD, -List.length_take, gdA, leFr, ASt.at, keepFr, updAll, upd_zero, upd_succ, AV.rnb, AV.rnb0], by simp [-List.getD_eq_getElem?_getD, gdA, ASt.at, AO.rnb, AV.rnb0, upd_k0, upd_k1, upd_k2, upd_k3], rfl, rfl⟩
    rintro ⟨m, out⟩ ⟨h1, h3⟩
    simp only at h1 h3
    simp only [ASt.at, keepFr, updAll, upd_zero, upd_succ, lgA, Nat.reduceEqDiff, Nat.reduceAdd, ↓reduceIte, eq_self]
    have h2 : out.length ≤ 20 := by have := congrArg List.length h1; rw [List.length_append] at this; omega
    have hm := tmod_neg m
    have hd := tdiv_neg m
    have hm2 : m % 10 < 10 := Nat.mod_lt _ (by decide)
    have hd2 : m / 10 ≤ m := Nat.div_le_self ..
    have e1 : (48 + ((m % 10 : Nat) : Int)).toNat = 48 + m % 10 := by omega
    repeat' first | ((with_reducible show aol _ _ _ _ _); first|(refine gF (by rfl) ?_ ?_; focus simp only [go_sem]; done)|(refine gU (by rfl) ?_ ?_; focus simp only [go_sem]; done))|((with_reducible refine hK _ ?_); clear hK K; try simp only [nx])|(with_reducible first|refine aS fun K hK => ?_|refine aB ?_|apply And.intro|exact True.intro)|((first|((with_reducible show aol _ _ _ _ _); try first|(refine gT (by rfl) ?_ ?_; focus simp only [go_sem]; done)|refine gB (by rfl) (by rfl) (fun h => ?_) (fun h => ?_) <;> (try simp only [hsX, reduceCtorEq] at h))|((with_reducible show Awp _ _ (Code.region _ _ _) _ _); first|refine rK (by repeat constructor) (fun K hK => ?_)|(refine dK (by kernel_rfl) (by repeat constructor) (fun K hK => ?_)))) <;> simp (maxSteps := 2000000) (disch := omega) only [go_sem, ↓reduceIte, Nat.reduceEqDiff, Nat.reduceAdd, Nat.reduceLT, Nat.reduceLeDiff, Nat.reduceSub, hm, hd, e1, Int.neg_neg, Int.zero_sub])|((with_reducible show Awp _ _ (Code.cond _ _ _) _ _); refine aC rfl (fun h => ?_) (fun h => ?_) <;> (try simp only [hsX, reduceCtorEq] at h))|((with_reducible first|refine aK ?_|refine aR ?_); simp only [nx])|((with_reducible refine aE ?_); simp only [nx, ne_eq, not_false_eq_true, Nat.reduceEqDiff, reduceCtorEq]; try ((repeat ((fail_if_success refine hK _ ?_); clear hK K)); refine hK _ ?_; clear hK K))|((with_reducible first|show List.all _ _ = true|show lendOk _ _ = true); rfl)|omega|((with_reducible first|show ¬ _|show _ → _); intro h; first|contradiction|cases h; done|skip)
    all_goals (try (first|refine fK ?_|refine fM ?_; repeat clear hK))
    · refine ⟨(m / 10, UInt8.ofNat (48 + m % 10) :: out), ⟨?_, by simp only; omega⟩, by simp only; omega, ?_⟩
      · have hm0 : m ≠ 0 := by omega
        rw [← h1, dd_step hm0, List.append_assoc]; rfl
      exact ⟨[], rfl, rfl, by simp [-List.getD_eq_getElem?_getD, -List.length_take, gdA, leFr, ASt.at, keepFr, updAll, upd_zero, upd_succ, AV.rnb, AV.rnb0], by simp [-List.getD_eq_getElem?_getD, gdA, ASt.at, AO.rnb, AV.rnb0, upd_k0, upd_k1, upd_k2, upd_k3], rfl, rfl⟩
    · have hz : m % 10 = 0 := by omega
      refine ⟨(m / 10, UInt8.ofNat (48 + m % 10) :: out), ⟨?_, by simp only; omega⟩, by simp only; omega, ?_⟩
      · have hm0 : m ≠ 0 := by omega
        rw [← h1, dd_step hm0, List.append_assoc]; rfl
      exact ⟨[], rfl, rfl, by simp [-List.getD_eq_getElem?_getD, -List.length_take, gdA, leFr, ASt.at, keepFr, updAll, upd_zero, upd_succ, AV.rnb, AV.rnb0, hz], by simp [-List.getD_eq_getElem?_getD, gdA, ASt.at, AO.rnb, AV.rnb0, upd_k0, upd_k1, upd_k2, upd_k3, hz], rfl, rfl⟩
    · obtain rfl : m = 0 := by omega
      refine fin_tmp rfl (str_eq ?_)
      rw [itoa_neg hu0, ← h1]; rfl
  · obtain ⟨u, rfl⟩ : ∃ u : Nat, n = (u : Int) := ⟨n.toNat, by omega⟩
    have hu : u ≤ 9223372036854775807 := by omega
    have hlu := dd_len 20 u (by omega)
    repeat' first | ((with_reducible show aol _ _ _ _ _); first|(refine gF (by rfl) ?_ ?_; focus simp only [go_sem]; done)|(refine gU (by rfl) ?_ ?_; focus simp only [go_sem]; done))|((with_reducible refine hK _ ?_); clear hK K; try simp only [nx])|(with_reducible first|refine aS fun K hK => ?_|refine aB ?_|apply And.intro|exact True.intro)|((first|((with_reducible show aol _ _ _ _ _); try first|(refine gT (by rfl) ?_ ?_; focus simp only [go_sem]; done)|refine gB (by rfl) (by rfl) (fun h => ?_) (fun h => ?_) <;> (try simp only [hsX, reduceCtorEq] at h))|((with_reducible show Awp _ _ (Code.region _ _ _) _ _); first|refine rK (by repeat constructor) (fun K hK => ?_)|(refine dK (by kernel_rfl) (by repeat constructor) (fun K hK => ?_)))) <;> simp (maxSteps := 2000000) (disch := omega) only [go_sem, ↓reduceIte, Nat.reduceEqDiff, Nat.reduceAdd, Nat.reduceLT, Nat.reduceLeDiff, Nat.reduceSub])|((with_reducible show Awp _ _ (Code.cond _ _ _) _ _); refine aC rfl (fun h => ?_) (fun h => ?_) <;> (try simp only [hsX, reduceCtorEq] at h))|((with_reducible first|refine aK ?_|refine aR ?_); simp only [nx])|((with_reducible refine aE ?_); simp only [nx, ne_eq, not_false_eq_true, Nat.reduceEqDiff, reduceCtorEq]; try ((repeat ((fail_if_success refine hK _ ?_); clear hK K)); refine hK _ ?_; clear hK K))|((with_reducible first|show List.all _ _ = true|show lendOk _ _ = true); rfl)|omega|((with_reducible first|show ¬ _|show _ → _); intro h; first|contradiction|cases h; done|skip)
    all_goals (try (first|refine fK ?_|refine fM ?_; repeat clear hK))
    · refine fin_tmp rfl (str_eq ?_)
      rw [itoa_nat, show u = 0 by omega, dec_zero]
    have hu0 : u ≠ 0 := by omega
    refine awp_forR 0 hX (fun s (i : Nat × List UInt8) => s.at [4] [(0, .i (i.1 : Int)), (3, .v (.string ⟨List.toArray i.2⟩))] []) (fun i => dd i.1 ++ i.2 = dd u ∧ i.1 ≤ u) (fun i => i.1) (u, []) ⟨by simp, Nat.le_refl _⟩ ?_ ?_
    · exact ⟨[], rfl, rfl, by simp [-List.getD_eq_getElem?_getD, -List.length_take, gdA, leFr, ASt.at, keepFr, updAll, upd_zero, upd_succ, AV.rnb, AV.rnb0], by simp [-List.getD_eq_getElem?_getD, gdA, ASt.at, AO.rnb, AV.rnb0, upd_k0, upd_k1, upd_k2, upd_k3], rfl, rfl⟩
    rintro ⟨m, out⟩ ⟨h1, h3⟩
    simp only at h1 h3
    simp only [ASt.at, keepFr, updAll, upd_zero, upd_succ, lgA, Nat.reduceEqDiff, Nat.reduceAdd, ↓reduceIte, eq_self]
    have h2 : out.length ≤ 20 := by have := congrArg List.length h1; rw [List.length_append] at this; omega
    have hm := tmod_nat m
    have hd := tdiv_nat m
    have hm2 : m % 10 < 10 := Nat.mod_lt _ (by decide)
    have hd2 : m / 10 ≤ m := Nat.div_le_self ..
    have e1 : (48 + ((m % 10 : Nat) : Int)).toNat = 48 + m % 10 := by omega
    repeat' first | ((with_reducible show aol _ _ _ _ _); first|(refine gF (by rfl) ?_ ?_; focus simp only [go_sem]; done)|(refine gU (by rfl) ?_ ?_; focus simp only [go_sem]; done))|((with_reducible refine hK _ ?_); clear hK K; try simp only [nx])|(with_reducible first|refine aS fun K hK => ?_|refine aB ?_|apply And.intro|exact True.intro)|((first|((with_reducible show aol _ _ _ _ _); try first|(refine gT (by rfl) ?_ ?_; focus simp only [go_sem]; done)|refine gB (by rfl) (by rfl) (fun h => ?_) (fun h => ?_) <;> (try simp only [hsX, reduceCtorEq] at h))|((with_reducible show Awp _ _ (Code.region _ _ _) _ _); first|refine rK (by repeat constructor) (fun K hK => ?_)|(refine dK (by kernel_rfl) (by repeat constructor) (fun K hK => ?_)))) <;> simp (maxSteps := 2000000) (disch := omega) only [go_sem, ↓reduceIte, Nat.reduceEqDiff, Nat.reduceAdd, Nat.reduceLT, Nat.reduceLeDiff, Nat.reduceSub, hm, hd, e1])|((with_reducible show Awp _ _ (Code.cond _ _ _) _ _); refine aC rfl (fun h => ?_) (fun h => ?_) <;> (try simp only [hsX, reduceCtorEq] at h))|((with_reducible first|refine aK ?_|refine aR ?_); simp only [nx])|((with_reducible refine aE ?_); simp only [nx, ne_eq, not_false_eq_true, Nat.reduceEqDiff, reduceCtorEq]; try ((repeat ((fail_if_success refine hK _ ?_); clear hK K)); refine hK _ ?_; clear hK K))|((with_reducible first|show List.all _ _ = true|show lendOk _ _ = true); rfl)|omega|((with_reducible first|show ¬ _|show _ → _); intro h; first|contradiction|cases h; done|skip)
    all_goals (try (first|refine fK ?_|refine fM ?_; repeat clear hK))
    · refine ⟨(m / 10, UInt8.ofNat (48 + m % 10) :: out), ⟨?_, by simp only; omega⟩, by simp only; omega, ?_⟩
      · have hm0 : m ≠ 0 := by omega
        rw [← h1, dd_step hm0, List.append_assoc]; rfl
      exact ⟨[], rfl, rfl, by simp [-List.getD_eq_getElem?_getD, -List.length_take, gdA, leFr, ASt.at, keepFr, updAll, upd_zero, upd_succ, AV.rnb, AV.rnb0], by simp [-List.getD_eq_getElem?_getD, gdA, ASt.at, AO.rnb, AV.rnb0, upd_k0, upd_k1, upd_k2, upd_k3], rfl, rfl⟩
    · obtain rfl : m = 0 := by omega
      refine fin_tmp rfl (str_eq ?_)
      rw [itoa_nat, dec_dd hu0, ← h1]; rfl
def isD (b : UInt8) : Bool := decide (48 ≤ b.toNat) && decide (b.toNat ≤ 57)
def dvS (n : Nat) (b : UInt8) : Nat := if isD b then n * 10 + (b.toNat - 48) else n
def dv (l : List UInt8) : Nat := l.foldl dvS 0
def dk (l : List UInt8) : Nat := (l.filter isD).length
theorem dv_snoc (l : List UInt8) (b : UInt8) : dv (l ++ [b]) = dvS (dv l) b := by simp [dv]
theorem dk_snoc (l : List UInt8) (b : UInt8) : dk (l ++ [b]) = dk l + if isD b then 1 else 0 := by
  unfold dk; rw [List.filter_append, List.length_append]
  cases h : isD b <;> simp [h]
theorem dk_le (l : List UInt8) : dk l ≤ l.length := List.length_filter_le ..
theorem dk_all {l : List UInt8} (h : l.all isD = true) : dk l = l.length := by
  unfold dk; rw [List.filter_eq_self.2 (List.all_eq_true.1 h)]
theorem isD_lt {b : UInt8} (h : isD b = true) : 48 ≤ b.toNat ∧ b.toNat ≤ 57 := by
  simpa [isD] using h
theorem dvS_lt {n k : Nat} {b : UInt8} (h : n < 10 ^ k) : dvS n b < 10 ^ (k + 1) := by
  unfold dvS
  rw [Nat.pow_succ]
  split
  · rename_i hb; have := isD_lt hb; omega
  · omega
theorem dv_lt (l : List UInt8) : ∀ k, (l.take k).length = k → dv (l.take k) < 10 ^ k
  | 0, _ => by simp [dv]
  | k + 1, h => by
    have hk : k < l.length := by rw [List.length_take] at h; omega
    have ih := dv_lt l k (by rw [List.length_take]; omega)
    rw [List.take_add_one, List.getElem?_eq_getElem hk]
    show dv (l.take k ++ [_]) < _
    rw [dv_snoc]
    exact dvS_lt ih
theorem dv_lt11 {l : List UInt8} {k : Nat} (h : k ≤ l.length) (h' : k ≤ 11) : dv (l.take k) < 100000000000 := by
  have := dv_lt l k (by rw [List.length_take]; omega)
  exact Nat.lt_of_lt_of_le this (Nat.pow_le_pow_right (by omega) h')
theorem take_sn {l : List UInt8} {k : Nat} (h : k < l.length) : l.take (k + 1) = l.take k ++ [l.getD k 0] := by
  rw [List.take_add_one, List.getElem?_eq_getElem h, List.getD_eq_getElem?_getD, List.getElem?_eq_getElem h]; rfl
theorem byte_lt (b : UInt8) : b.toNat < 256 := b.toNat_lt
def piX (l : List UInt8) : Int := if l.head? = some 45 then -(dv l : Int) else (dv l : Int)
def piB (l : List UInt8) : Bool := decide (dk l ≤ 9) && (decide (l.length ≤ 10) && decide (Lib.itoa (piX l) = l))
def piN (l : List UInt8) : Int := if piB l then piX l else 0
theorem piB_iff {l : List UInt8} : piB l = true ↔ dk l ≤ 9 ∧ l.length ≤ 10 ∧ Lib.itoa (piX l) = l := by simp [piB]
theorem piB_yes {l : List UInt8} (h : dk l ≤ 9 ∧ l.length ≤ 10 ∧ Lib.itoa (piX l) = l) : piN l = piX l ∧ piB l = true := by
  have := piB_iff.2 h
  exact ⟨by unfold piN; rw [if_pos this], this⟩
theorem piB_no {l : List UInt8} (h : ¬ (dk l ≤ 9 ∧ l.length ≤ 10 ∧ Lib.itoa (piX l) = l)) : piN l = 0 ∧ piB l = false := by
  have : piB l = false := by cases hb : piB l with
    | false => rfl
    | true => exact absurd (piB_iff.1 hb) h
  exact ⟨by unfold piN; rw [this]; rfl, this⟩
theorem head_getD {l : List UInt8} (h : 0 < l.length) : (l.head? = some 45) ↔ ((l.getD 0 0).toNat : Int) = 45 := by
  cases l with
  | nil => simp at h
  | cons b l =>
    simp only [List.head?_cons, Option.some.injEq, List.getD_cons_zero]
    constructor
    · rintro rfl; rfl
    · intro h
      have h' : b.toNat = 45 := by omega
      rw [← UInt8.toNat_inj, h']; rfl
def tPi : Tab
  | [.v (.string s)] => some (s.size ≤ 1099511627776, .tu [.i (piN s.data.toList), .b (piB s.data.toList)], [])
  | _ => none
theorem str_list (s : ByteArray) : ∃ l : List UInt8, s = ⟨List.toArray l⟩ := ⟨s.data.toList, (mk_toL s).symm⟩
theorem fin_pi {C : Cfg} {t u : Tmp} {l : List UInt8} {s : ASt} {x : Int} {b : Bool} (h : nth s.fr t = .i x) (h' : nth s.fr u = .b b) (e : piN l = x ∧ piB l = b) : FinS C [.tmp t, .tmp u] (.tu [.i (piN l), .b (piB l)]) [] s := by
  rw [e.1, e.2]; exact fin_tmp2 rfl h h'
theorem dv_yes {l : List UInt8} {i : Nat} (h : i < l.length) (hb : 48 ≤ ((l.getD i 0).toNat : Int)) (hb' : ((l.getD i 0).toNat : Int) ≤ 57) :
    ((dv (l.take (i + 1)) : Nat) : Int) = ((dv (l.take i) : Nat) : Int) * 10 + (((l.getD i 0).toNat : Int) - 48) ∧ ((dk (l.take (i + 1)) : Nat) : Int) = ((dk (l.take i) : Nat) : Int) + 1 := by
  have hD : isD (l.getD i 0) = true := by simp only [isD, Bool.and_eq_true, decide_eq_true_eq]; omega
  rw [take_sn h, dv_snoc, dk_snoc, dvS, if_pos hD, if_pos hD]
  omega
theorem dv_no {l : List UInt8} {i : Nat} (h : i < l.length) (hb : ¬ (48 ≤ ((l.getD i 0).toNat : Int) ∧ ((l.getD i 0).toNat : Int) ≤ 57)) :
    dv (l.take (i + 1)) = dv (l.take i) ∧ dk (l.take (i + 1)) = dk (l.take i) := by
  have hD : ¬ isD (l.getD i 0) = true := by simp only [isD, Bool.and_eq_true, decide_eq_true_eq]; omega
  rw [take_sn h, dv_snoc, dk_snoc, dvS, if_neg hD, if_neg hD]
  exact ⟨rfl, rfl⟩
theorem dk_take (l : List UInt8) (i : Nat) : dk (l.take i) ≤ dk l := by
  unfold dk
  exact ((List.take_sublist i l).filter isD).length_le
theorem take_all {l : List UInt8} {i : Nat} (h : (l.length : Int) ≤ i) : l.take i = l := List.take_of_length_le (by omega)
theorem piX_neg {l : List UInt8} {i : Nat} (h : (l.length : Int) ≤ i) (h1 : (0 : Int) < l.length) (h2 : ((l.getD 0 0).toNat : Int) = 45) : piX l = 0 - ((dv (l.take i) : Nat) : Int) := by
  unfold piX; rw [if_pos ((head_getD (by omega)).2 h2), take_all h, Int.zero_sub]
theorem piX_pos {l : List UInt8} {i : Nat} (h : (l.length : Int) ≤ i) (h1 : (0 : Int) < l.length) (h2 : ¬ ((l.getD 0 0).toNat : Int) = 45) : piX l = ((dv (l.take i) : Nat) : Int) := by
  unfold piX; rw [if_neg (fun e => h2 ((head_getD (by omega)).1 e)), take_all h]
theorem piX_nil {l : List UInt8} {i : Nat} (h : (l.length : Int) ≤ i) (h1 : (l.length : Int) ≤ 0) : piX l = ((dv (l.take i) : Nat) : Int) := by
  have : l = [] := List.length_eq_zero_iff.1 (by omega)
  subst this; simp [piX, dv]
theorem pi_yes {l : List UInt8} {i : Nat} {x : Int} (h1 : (l.length : Int) ≤ i) (hx : piX l = x) (h2 : ((dk (l.take i) : Nat) : Int) ≤ 9) (h3 : (l.length : Int) ≤ 10) (h4 : Lib.itoa x = l) : piN l = x ∧ piB l = true := by
  subst hx; rw [take_all h1] at h2; exact piB_yes ⟨by omega, by omega, h4⟩
theorem pi_no1 {l : List UInt8} (h : (10 : Int) < l.length) : piN l = 0 ∧ piB l = false := piB_no (by omega)
theorem pi_no2 {l : List UInt8} {i : Nat} (h : (9 : Int) < (dk (l.take i) : Nat)) : piN l = 0 ∧ piB l = false := piB_no (by have := dk_take l i; omega)
theorem pi_no3 {l : List UInt8} {x : Int} (hx : piX l = x) (h : ¬ Lib.itoa x = l) : piN l = 0 ∧ piB l = false := piB_no (by subst hx; exact fun e => h e.2.2)
theorem specPi_ok : Fits Tryd.prog 34 tPi := by
  refine ⟨callable_of Tryd.func34 (by kernel_rfl) rfl, ?_⟩
  intro args p out Ho h hp
  unfold tPi at h
  split at h <;> cases h
  rename_i s
  refine ⟨acall_by (env_ok (env := [(23, tItoa)]) (by simp only [fmA, and_true]; exact specFmt_ok)) Tryd.func34 rfl rfl rfl rfl rfl ?_, rfl, rfl⟩
  intro hlen c hc hX
  simp only [lensOk, AV.lenOk, true_and, and_true] at hlen
  simp only [Tryd.ntmps34, Tryd.results34, lsA, List.replicate, Nat.reduceAdd, Nat.reduceSub]
  obtain ⟨l, rfl⟩ := str_list s
  have hsz : l.length ≤ 1099511627776 := by rw [size_bs] at hp; exact hp
  show Awp _ _ _ (Fin _ _ (.tu [.i (piN l), .b (piB l)]) []) _
  repeat' first | ((with_reducible show aol _ _ _ _ _); first|(refine gF (by rfl) ?_ ?_; focus simp only [go_sem]; done)|(refine gU (by rfl) ?_ ?_; focus simp only [go_sem]; done))|((with_reducible refine hK _ ?_); clear hK K; try simp only [nx])|(with_reducible first|refine aS fun K hK => ?_|refine aB ?_|apply And.intro|exact True.intro)|((first|((with_reducible show aol _ _ _ _ _); try first|(refine gT (by rfl) ?_ ?_; focus simp only [go_sem]; done)|refine gB (by rfl) (by rfl) (fun h => ?_) (fun h => ?_) <;> (try simp only [hsX, reduceCtorEq] at h))|((with_reducible show Awp _ _ (Code.region _ _ _) _ _); first|refine rK (by repeat constructor) (fun K hK => ?_)|(refine dK (by kernel_rfl) (by repeat constructor) (fun K hK => ?_)))) <;> simp (maxSteps := 2000000) (disch := omega) only [go_sem, ↓reduceIte, Nat.reduceEqDiff, Nat.reduceAdd, Nat.reduceLT, Nat.reduceLeDiff, Nat.reduceSub, tItoa])|((with_reducible show Awp _ _ (Code.cond _ _ _) _ _); refine aC rfl (fun h => ?_) (fun h => ?_) <;> (try simp only [hsX, reduceCtorEq] at h))|((with_reducible first|refine aK ?_|refine aR ?_); simp only [nx])|((with_reducible refine aE ?_); simp only [nx, ne_eq, not_false_eq_true, Nat.reduceEqDiff, reduceCtorEq]; try ((repeat ((fail_if_success refine hK _ ?_); clear hK K)); refine hK _ ?_; clear hK K))|((with_reducible first|show List.all _ _ = true|show lendOk _ _ = true); rfl)|omega|((with_reducible first|show ¬ _|show _ → _); intro h; first|contradiction|cases h; done|skip)
  all_goals (try (first|refine fK ?_|refine fM ?_; repeat clear hK))
  refine awp_for (fun s (i : Nat) => s.at [0] [(4, .i ((dv (l.take i) : Nat) : Int)), (5, .i ((dk (l.take i) : Nat) : Int)), (6, .i i)] s.hp) (fun i => i ≤ l.length ∧ i ≤ 11) (fun i => 11 - i) 0 (by omega) ?_ ?_
  · simp [-List.getD_eq_getElem?_getD, -List.length_take, Le, leFr, ASt.at, keepFr, updAll, upd_zero, upd_succ, dv, dk]
  rintro i ⟨hi, hi'⟩
  simp only [ASt.at, keepFr, updAll, upd_zero, upd_succ, lgA, Nat.reduceEqDiff, Nat.reduceAdd, ↓reduceIte, eq_self]
  have hlt := dv_lt11 hi hi'
  have hdk := dk_le (l.take i)
  have hdl : (l.take i).length ≤ i := List.length_take_le ..
  have hb := byte_lt (l.getD i 0)
  repeat' first | ((with_reducible show aol _ _ _ _ _); first|(refine gF (by rfl) ?_ ?_; focus simp only [go_sem]; done)|(refine gU (by rfl) ?_ ?_; focus simp only [go_sem]; done))|((with_reducible refine hK _ ?_); clear hK K; try simp only [nx])|(with_reducible first|refine aS fun K hK => ?_|refine aB ?_|apply And.intro|exact True.intro)|((first|((with_reducible show aol _ _ _ _ _); try first|(refine gT (by rfl) ?_ ?_; focus simp only [go_sem]; done)|refine gB (by rfl) (by rfl) (fun h => ?_) (fun h => ?_) <;> (try simp only [hsX, reduceCtorEq] at h))|((with_reducible show Awp _ _ (Code.region _ _ _) _ _); first|refine rK (by repeat constructor) (fun K hK => ?_)|(refine dK (by kernel_rfl) (by repeat constructor) (fun K hK => ?_)))) <;> simp (maxSteps := 2000000) (disch := omega) only [go_sem, ↓reduceIte, Nat.reduceEqDiff, Nat.reduceAdd, Nat.reduceLT, Nat.reduceLeDiff, Nat.reduceSub, tItoa, Int.toNat_zero])|((with_reducible show Awp _ _ (Code.cond _ _ _) _ _); refine aC rfl (fun h => ?_) (fun h => ?_) <;> (try simp only [hsX, reduceCtorEq] at h))|((with_reducible first|refine aK ?_|refine aR ?_); simp only [nx])|((with_reducible refine aE ?_); simp only [nx, ne_eq, not_false_eq_true, Nat.reduceEqDiff, reduceCtorEq]; try ((repeat ((fail_if_success refine hK _ ?_); clear hK K)); refine hK _ ?_; clear hK K))|((with_reducible first|show List.all _ _ = true|show lendOk _ _ = true); rfl)|omega|((with_reducible first|show ¬ _|show _ → _); intro h; first|contradiction|cases h; done|skip)
  all_goals (try (first|refine fK ?_|refine fM ?_; repeat clear hK))
  · rename_i h1 h2 h3
    obtain ⟨e1, e2⟩ := dv_yes (l := l) (i := i) (by omega) h3 h
    refine ⟨i + 1, by omega, by omega, ?_⟩
    simp [-List.getD_eq_getElem?_getD, -List.length_take, Le, leFr, ASt.at, keepFr, updAll, upd_zero, upd_succ, e1, e2]
  · rename_i h1 h2 h3
    obtain ⟨e1, e2⟩ := dv_no (l := l) (i := i) (by omega) (by omega)
    refine ⟨i + 1, by omega, by omega, ?_⟩
    simp [-List.getD_eq_getElem?_getD, -List.length_take, Le, leFr, ASt.at, keepFr, updAll, upd_zero, upd_succ, e1, e2]
  · rename_i h1 h2 h3
    obtain ⟨e1, e2⟩ := dv_no (l := l) (i := i) (by omega) (by omega)
    refine ⟨i + 1, by omega, by omega, ?_⟩
    simp [-List.getD_eq_getElem?_getD, -List.length_take, Le, leFr, ASt.at, keepFr, updAll, upd_zero, upd_succ, e1, e2]
  all_goals first
    | exact fin_pi rfl rfl (pi_no1 (by assumption))
    | exact fin_pi rfl rfl (pi_no2 (i := i) (by assumption))
    | exact fin_pi rfl rfl (pi_no3 (piX_neg (i := i) (by assumption) (by assumption) (by assumption)) (by assumption))
    | exact fin_pi rfl rfl (pi_no3 (piX_pos (i := i) (by assumption) (by assumption) (by assumption)) (by assumption))
    | exact fin_pi rfl rfl (pi_no3 (piX_nil (i := i) (by assumption) (by assumption)) (by assumption))
    | exact fin_pi rfl rfl (pi_yes (i := i) (by assumption) (piX_neg (by assumption) (by assumption) (by assumption)) (by assumption) (by assumption) (by assumption))
    | exact fin_pi rfl rfl (pi_yes (i := i) (by assumption) (piX_pos (by assumption) (by assumption) (by assumption)) (by assumption) (by assumption) (by assumption))
    | exact fin_pi rfl rfl (pi_yes (i := i) (by assumption) (piX_nil (by assumption) (by assumption)) (by assumption) (by assumption) (by assumption))
theorem isD_byte {n : Nat} (h : n < 10) : isD (UInt8.ofNat (48 + n)) = true := by
  have : (UInt8.ofNat (48 + n)).toNat = 48 + n := by rw [UInt8.toNat_ofNat_of_lt']; show 48 + n < 256; omega
  simp only [isD, this, Bool.and_eq_true, decide_eq_true_eq]; omega
theorem dec_all (u : Nat) : (Lib.decDigits u).all isD = true ∧ 0 < (Lib.decDigits u).length := by
  induction u using Nat.strongRecOn with
  | _ u ih =>
    rw [Lib.decDigits]
    split
    · rename_i h
      exact ⟨by rw [List.all_cons, isD_byte h]; rfl, Nat.zero_lt_one⟩
    · rename_i h
      have := ih (u / 10) (by omega)
      refine ⟨?_, by simp⟩
      rw [List.all_append, this.1, List.all_cons, isD_byte (Nat.mod_lt u (by decide : 10 > 0))]; rfl
def tp (l : List UInt8) : List UInt8 := Lib.trimPrefix l [45]
theorem tp_cons (b : UInt8) (l : List UInt8) : tp (b :: l) = if b = 45 then l else b :: l := by
  unfold tp Lib.trimPrefix Lib.hasPrefix
  by_cases h : b = 45
  · subst h; simp [List.isPrefixOf]
  · have : ¬ (45 : UInt8) = b := fun e => h e.symm
    simp [List.isPrefixOf, h, this]
theorem tp_nil : tp [] = [] := rfl
theorem tp_dv (l : List UInt8) : dv (tp l) = dv l ∧ dk (tp l) = dk l := by
  cases l with
  | nil => exact ⟨rfl, rfl⟩
  | cons b l =>
    rw [tp_cons]
    split
    · rename_i h; subst h; exact ⟨rfl, rfl⟩
    · exact ⟨rfl, rfl⟩
theorem tp_len (l : List UInt8) : (tp l).length ≤ l.length ∧ l.length ≤ (tp l).length + 1 ∧ ((tp l).length = l.length ↔ ¬ l.head? = some 45) := by
  cases l with
  | nil => simp [tp_nil]
  | cons b l =>
    rw [tp_cons]
    split <;> simp_all
theorem tp_itoa {x : Int} {l : List UInt8} (h : Lib.itoa x = l) : (tp l).all isD = true ∧ 0 < (tp l).length := by
  unfold Lib.itoa at h
  split at h
  · subst h
    rw [tp_cons, if_pos rfl]
    exact dec_all _
  · have h1 := dec_all x.toNat
    rw [h] at h1
    have : tp l = l := by
      cases l with
      | nil => rfl
      | cons b l =>
        rw [tp_cons, if_neg]
        intro e
        subst e
        simp [isD] at h1
    rw [this]; exact h1
theorem pq_no1 {l : List UInt8} (h : ((tp l).length : Int) < 1) : piN l = 0 ∧ piB l = false := piB_no fun e => by have := (tp_itoa e.2.2).2; omega
theorem pq_no2 {l : List UInt8} (h : (9 : Int) < (tp l).length) : piN l = 0 ∧ piB l = false := piB_no fun e => by
  have h1 := dk_all (tp_itoa e.2.2).1
  rw [(tp_dv l).2] at h1
  omega
theorem pq_bad {l : List UInt8} {i : Nat} (h : i < (tp l).length) (hb : ¬ (48 ≤ (((tp l).getD i 0).toNat : Int) ∧ (((tp l).getD i 0).toNat : Int) ≤ 57)) : piN l = 0 ∧ piB l = false := piB_no fun e => by
  have h1 := (tp_itoa e.2.2).1
  rw [List.all_eq_true] at h1
  have h2 := isD_lt (h1 _ (List.getElem_mem h))
  rw [List.getD_eq_getElem?_getD, List.getElem?_eq_getElem h] at hb
  exact hb ⟨by have := h2.1; simp only [Option.getD_some]; omega, by have := h2.2; simp only [Option.getD_some]; omega⟩
theorem pqX_neg {l : List UInt8} {i : Nat} (h : ((tp l).length : Int) ≤ i) (h1 : ¬ ((tp l).length : Int) = l.length) : piX l = 0 - ((dv ((tp l).take i) : Nat) : Int) := by
  have h2 := (tp_len l).2.2
  unfold piX
  rw [if_pos (Decidable.not_not.1 fun e => h1 (by rw [h2.2 e])), take_all h, (tp_dv l).1, Int.zero_sub]
theorem pqX_pos {l : List UInt8} {i : Nat} (h : ((tp l).length : Int) ≤ i) (h1 : ((tp l).length : Int) = l.length) : piX l = ((dv ((tp l).take i) : Nat) : Int) := by
  have h2 := (tp_len l).2.2
  unfold piX
  rw [if_neg (h2.1 (by omega)), take_all h, (tp_dv l).1]
theorem pq_yes {l : List UInt8} {i : Nat} {x : Int} (h1 : ((tp l).length : Int) ≤ i) (ha : ((tp l).take i).all isD = true) (h2 : ((tp l).length : Int) ≤ 9) (hx : piX l = x) (h4 : Lib.itoa x = l) : piN l = x ∧ piB l = true := by
  subst hx
  rw [take_all h1] at ha
  have := dk_all ha
  rw [(tp_dv l).2] at this
  have := (tp_len l).2.1
  exact piB_yes ⟨by omega, by omega, h4⟩
theorem implFmt_ok : Fits Tryd.prog 40 tItoa := by
  refine ⟨callable_of Tryd.func40 (by kernel_rfl) rfl, ?_⟩
  intro args p out Ho h hp
  unfold tItoa at h
  split at h <;> cases h
  rename_i n
  refine ⟨acall_by (env_ok (env := [(47, tItoa)]) (by simp only [fmA, and_true]; exact cItoa_ok)) Tryd.func40 rfl rfl rfl rfl rfl ?_, rfl, rfl⟩
  intro hlen c hc hX
  simp only [lensOk, AV.lenOk, true_and, and_true] at hlen
  simp only [Tryd.ntmps40, Tryd.results40, lsA, List.replicate, Nat.reduceAdd, Nat.reduceSub]
  repeat' first | ((with_reducible show aol _ _ _ _ _); first|(refine gF (by rfl) ?_ ?_; focus simp only [go_sem]; done)|(refine gU (by rfl) ?_ ?_; focus simp only [go_sem]; done))|((with_reducible refine hK _ ?_); clear hK K; try simp only [nx])|(with_reducible first|refine aS fun K hK => ?_|refine aB ?_|apply And.intro|exact True.intro)|((first|((with_reducible show aol _ _ _ _ _); try first|(refine gT (by rfl) ?_ ?_; focus simp only [go_sem]; done)|refine gB (by rfl) (by rfl) (fun h => ?_) (fun h => ?_) <;> (try simp only [hsX, reduceCtorEq] at h))|((with_reducible show Awp _ _ (Code.region _ _ _) _ _); first|refine rK (by repeat constructor) (fun K hK => ?_)|(refine dK (by kernel_rfl) (by repeat constructor) (fun K hK => ?_)))) <;> simp (maxSteps := 2000000) (disch := omega) only [go_sem, ↓reduceIte, Nat.reduceEqDiff, Nat.reduceAdd, Nat.reduceLT, Nat.reduceLeDiff, Nat.reduceSub, tItoa])|((with_reducible show Awp _ _ (Code.cond _ _ _) _ _); refine aC rfl (fun h => ?_) (fun h => ?_) <;> (try simp only [hsX, reduceCtorEq] at h))|((with_reducible first|refine aK ?_|refine aR ?_); simp only [nx])|((with_reducible refine aE ?_); simp only [nx, ne_eq, not_false_eq_true, Nat.reduceEqDiff, reduceCtorEq]; try ((repeat ((fail_if_success refine hK _ ?_); clear hK K)); refine hK _ ?_; clear hK K))|((with_reducible first|show List.all _ _ = true|show lendOk _ _ = true); rfl)|omega|((with_reducible first|show ¬ _|show _ → _); intro h; first|contradiction|cases h; done|skip)
  all_goals (try (first|refine fK ?_|refine fM ?_; repeat clear hK))
  refine fin_tmp rfl rfl
theorem implPi_ok : Fits Tryd.prog 36 tPi := by
  refine ⟨callable_of Tryd.func36 (by kernel_rfl) rfl, ?_⟩
  intro args p out Ho h hp
  unfold tPi at h
  split at h <;> cases h
  rename_i s
  refine ⟨acall_by (env_ok (env := [(40, tItoa), (46, tTrim)]) (by simp only [fmA, and_true]; exact ⟨implFmt_ok, cTrim_ok⟩)) Tryd.func36 rfl rfl rfl rfl rfl ?_, rfl, rfl⟩
  intro hlen c hc hX
  simp only [lensOk, AV.lenOk, true_and, and_true] at hlen
  simp only [Tryd.ntmps36, Tryd.results36, lsA, List.replicate, Nat.reduceAdd, Nat.reduceSub]
  obtain ⟨l, rfl⟩ := str_list s
  have hsz : l.length ≤ 1099511627776 := by rw [size_bs] at hp; exact hp
  show Awp _ _ _ (Fin _ _ (.tu [.i (piN l), .b (piB l)]) []) _
  have htp : Lib.trimPrefix l [45] = tp l := rfl
  obtain ⟨hl1, hl2, _⟩ := tp_len l
  repeat' first | ((with_reducible show aol _ _ _ _ _); first|(refine gF (by rfl) ?_ ?_; focus simp only [go_sem]; done)|(refine gU (by rfl) ?_ ?_; focus simp only [go_sem]; done))|((with_reducible refine hK _ ?_); clear hK K; try simp only [nx])|(with_reducible first|refine aS fun K hK => ?_|refine aB ?_|apply And.intro|exact True.intro)|((first|((with_reducible show aol _ _ _ _ _); try first|(refine gT (by rfl) ?_ ?_; focus simp only [go_sem]; done)|refine gB (by rfl) (by rfl) (fun h => ?_) (fun h => ?_) <;> (try simp only [hsX, reduceCtorEq] at h))|((with_reducible show Awp _ _ (Code.region _ _ _) _ _); first|refine rK (by repeat constructor) (fun K hK => ?_)|(refine dK (by kernel_rfl) (by repeat constructor) (fun K hK => ?_)))) <;> simp (maxSteps := 2000000) (disch := omega) only [go_sem, ↓reduceIte, Nat.reduceEqDiff, Nat.reduceAdd, Nat.reduceLT, Nat.reduceLeDiff, Nat.reduceSub, tItoa, tTrim, htp])|((with_reducible show Awp _ _ (Code.cond _ _ _) _ _); refine aC rfl (fun h => ?_) (fun h => ?_) <;> (try simp only [hsX, reduceCtorEq] at h))|((with_reducible first|refine aK ?_|refine aR ?_); simp only [nx])|((with_reducible refine aE ?_); simp only [nx, ne_eq, not_false_eq_true, Nat.reduceEqDiff, reduceCtorEq]; try ((repeat ((fail_if_success refine hK _ ?_); clear hK K)); refine hK _ ?_; clear hK K))|((with_reducible first|show List.all _ _ = true|show lendOk _ _ = true); rfl)|omega|((with_reducible first|show ¬ _|show _ → _); intro h; first|contradiction|cases h; done|skip)
  all_goals (try (first|refine fK ?_|refine fM ?_; repeat clear hK))
  any_goals (first | exact fin_pi rfl rfl (pq_no2 (by assumption)) | exact fin_pi rfl rfl (pq_no1 (by assumption)))
  refine awp_for (fun s (i : Nat) => s.at [0, 4] [(5, .i ((dv ((tp l).take i) : Nat) : Int)), (6, .i i)] s.hp) (fun i => i ≤ (tp l).length ∧ ((tp l).take i).all isD = true) (fun i => (tp l).length - i) 0 (by simp) ?_ ?_
  · simp [-List.getD_eq_getElem?_getD, -List.length_take, Le, leFr, ASt.at, keepFr, updAll, upd_zero, upd_succ, dv]
  rintro i ⟨hi, ha⟩
  simp only [ASt.at, keepFr, updAll, upd_zero, upd_succ, lgA, Nat.reduceEqDiff, Nat.reduceAdd, ↓reduceIte, eq_self]
  have hlt := dv_lt11 hi (by omega)
  have hb := byte_lt ((tp l).getD i 0)
  repeat' first | ((with_reducible show aol _ _ _ _ _); first|(refine gF (by rfl) ?_ ?_; focus simp only [go_sem]; done)|(refine gU (by rfl) ?_ ?_; focus simp only [go_sem]; done))|((with_reducible refine hK _ ?_); clear hK K; try simp only [nx])|(with_reducible first|refine aS fun K hK => ?_|refine aB ?_|apply And.intro|exact True.intro)|((first|((with_reducible show aol _ _ _ _ _); try first|(refine gT (by rfl) ?_ ?_; focus simp only [go_sem]; done)|refine gB (by rfl) (by rfl) (fun h => ?_) (fun h => ?_) <;> (try simp only [hsX, reduceCtorEq] at h))|((with_reducible show Awp _ _ (Code.region _ _ _) _ _); first|refine rK (by repeat constructor) (fun K hK => ?_)|(refine dK (by kernel_rfl) (by repeat constructor) (fun K hK => ?_)))) <;> simp (maxSteps := 2000000) (disch := omega) only [go_sem, ↓reduceIte, Nat.reduceEqDiff, Nat.reduceAdd, Nat.reduceLT, Nat.reduceLeDiff, Nat.reduceSub, tItoa])|((with_reducible show Awp _ _ (Code.cond _ _ _) _ _); refine aC rfl (fun h => ?_) (fun h => ?_) <;> (try simp only [hsX, reduceCtorEq] at h))|((with_reducible first|refine aK ?_|refine aR ?_); simp only [nx])|((with_reducible refine aE ?_); simp only [nx, ne_eq, not_false_eq_true, Nat.reduceEqDiff, reduceCtorEq]; try ((repeat ((fail_if_success refine hK _ ?_); clear hK K)); refine hK _ ?_; clear hK K))|((with_reducible first|show List.all _ _ = true|show lendOk _ _ = true); rfl)|omega|((with_reducible first|show ¬ _|show _ → _); intro h; first|contradiction|cases h; done|skip)
  all_goals (try (first|refine fK ?_|refine fM ?_; repeat clear hK))
  · exact fin_pi rfl rfl (pq_bad (i := i) (by omega) (by omega))
  · rename_i h1 h2
    obtain ⟨e1, _⟩ := dv_yes (l := tp l) (i := i) (by omega) h2 h
    refine ⟨i + 1, ⟨by omega, ?_⟩, by omega, ?_⟩
    · rw [take_sn (by omega), List.all_append, ha, List.all_cons, isD, decide_eq_true (by omega), decide_eq_true (by omega)]; rfl
    · simp [-List.getD_eq_getElem?_getD, -List.length_take, Le, leFr, ASt.at, keepFr, updAll, upd_zero, upd_succ, e1]
  · exact fin_pi rfl rfl (pq_bad (i := i) (by omega) (by omega))
  all_goals first
    | exact fin_pi rfl rfl (pi_no3 (pqX_neg (i := i) (by assumption) (by assumption)) (by assumption))
    | exact fin_pi rfl rfl (pi_no3 (pqX_pos (i := i) (by assumption) (by assumption)) (by assumption))
    | exact fin_pi rfl rfl (pq_yes (i := i) (by assumption) ha (by assumption) (pqX_neg (by assumption) (by assumption)) (by assumption))
    | exact fin_pi rfl rfl (pq_yes (i := i) (by assumption) ha (by assumption) (pqX_pos (by assumption) (by assumption)) (by assumption))
end Go.Proofs.YthoionlldmfpiaaDoor
