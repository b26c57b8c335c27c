import Derived.Test.YthoionlldmfpiaaGreatT36
import Derived.Test.YthoionlldmfpiaaGreatHs
import Derived.Test.YthoionlldmfpiaaGreatT29
set_option linter.unusedSimpArgs false
set_option linter.unusedVariables false
set_option maxHeartbeats 2000000
namespace Go.Proofs.YthoionlldmfpiaaGreat
open Go Go.Ab
attribute [local irreducible] aol
attribute [local irreducible] popN
theorem bitsInd {P : Nat → Prop} (h0 : P 0) (hs : ∀ d i, d < 64 → Nat.testBit d i = false → d ||| 2 ^ i < 64 → P d → P (d ||| 2 ^ i)) : ∀ d, d < 64 → P d := by
  intro d
  induction d using Nat.strongRecOn with
  | ind d ih =>
    intro hd
    by_cases e : d = 0
    · rw [e]; exact h0
    · obtain ⟨h1, h2, h3⟩ := topBit (s := d) (by omega) e
      obtain ⟨h4, h5⟩ := topBit2 (s := d) (by omega) e
      have := hs (d - 2 ^ d.log2) d.log2 (by omega) h5 (by omega) (ih _ (by omega) (by omega))
      rw [h2] at this; exact this
theorem or_lt3 {a b m : Nat} (ha : a < 2 ^ m) (hb : b < 2 ^ m) : a ||| b < 2 ^ m := Nat.or_lt_two_pow ha hb
theorem sub_one {n : Int} {l : List Int} (h : subV n l = true) {A i : Nat} (hi : i < n.toNat) (hA : A < l.length) (hAi : Nat.testBit A i = false) :
    ∀ C, C < 64 → C < l.length → Nat.testBit C i = false → (∀ j, Nat.testBit A j = true → Nat.testBit C j = false) → l.getD (A ||| C ||| 2 ^ i) 0 + l.getD A 0 ≤ l.getD (A ||| C) 0 + l.getD (A ||| 2 ^ i) 0 := by
  have hf : fnV n l = true := by unfold subV at h; rw [Bool.and_eq_true] at h; exact h.1
  have hlen := fnV_len hf
  have hn := (fnV_iff.1 hf).1
  refine bitsInd ?_ ?_
  · intro _ _ _; rw [Nat.or_zero]; omega
  · intro d j hd hj hdj ih hlt hbi hdis
    have hdl : d < l.length := by
      have : d ≤ d ||| 2 ^ j := Nat.left_le_or
      omega
    have hjn : j < n.toNat := by
      have h1 : 2 ^ j ≤ d ||| 2 ^ j := Nat.right_le_or
      refine Nat.lt_of_not_le fun hle => ?_
      have := Nat.pow_le_pow_right (n := 2) (by omega) hle; omega
    have hne : i ≠ j := fun e => by
      subst e
      rw [Nat.testBit_or, Nat.testBit_two_pow_self, Bool.or_true] at hbi; cases hbi
    have hdi : Nat.testBit d i = false := by rw [Nat.testBit_or, Bool.or_eq_false_iff] at hbi; exact hbi.1
    have hdis' : ∀ k, Nat.testBit A k = true → Nat.testBit d k = false := fun k hk => by
      have := hdis k hk; rw [Nat.testBit_or, Bool.or_eq_false_iff] at this; exact this.1
    have hAj : Nat.testBit A j = false := by
      cases e : Nat.testBit A j with
      | false => rfl
      | true => have := hdis j e; rw [Nat.testBit_or, Nat.testBit_two_pow_self, Bool.or_true] at this; cases this
    have h1 := ih hdl hdi hdis'
    have hlt2 : A ||| d < l.length := by rw [hlen] at hA hdl ⊢; exact or_lt3 hA hdl
    have h2 := sub_at h (s := A ||| d) hlt2 hne hi hjn (by rw [Nat.testBit_or, hAi, hdi]; rfl) (by rw [Nat.testBit_or, hAj, hj]; rfl)
    unfold excV at h2
    have e1 : A ||| (d ||| 2 ^ j) = A ||| d ||| 2 ^ j := (Nat.or_assoc ..).symm
    have e2 : A ||| d ||| 2 ^ j ||| 2 ^ i = A ||| d ||| 2 ^ i ||| 2 ^ j := or_swap ..
    rw [e1, e2]
    omega
theorem sub_dis {n : Int} {l : List Int} (h : subV n l = true) {A C : Nat} (hA : A < l.length) (hC : C < l.length) (hAC : ∀ j, Nat.testBit A j = true → Nat.testBit C j = false) :
    ∀ D, D < 64 → D < l.length → (∀ j, Nat.testBit D j = true → Nat.testBit A j = false ∧ Nat.testBit C j = false) → l.getD (A ||| C ||| D) 0 + l.getD A 0 ≤ l.getD (A ||| C) 0 + l.getD (A ||| D) 0 := by
  have hf : fnV n l = true := by unfold subV at h; rw [Bool.and_eq_true] at h; exact h.1
  have hlen := fnV_len hf
  have hn := (fnV_iff.1 hf).1
  have hp6 := pow_le6 (g := n) ⟨hn.1, by omega⟩
  refine bitsInd ?_ ?_
  · intro _ _; rw [Nat.or_zero, Nat.or_zero]; omega
  · intro d j hd hj hdj ih hlt hdis
    have hdl : d < l.length := by
      have : d ≤ d ||| 2 ^ j := Nat.left_le_or
      omega
    have hjn : j < n.toNat := by
      have h1 : 2 ^ j ≤ d ||| 2 ^ j := Nat.right_le_or
      refine Nat.lt_of_not_le fun hle => ?_
      have := Nat.pow_le_pow_right (n := 2) (by omega) hle; omega
    have hb := fun k (hk : Nat.testBit d k = true) => hdis k (by rw [Nat.testBit_or, hk]; rfl)
    have hbj := hdis j (by rw [Nat.testBit_or, Nat.testBit_two_pow_self, Bool.or_true])
    have h1 := ih hdl hb
    have hAd : A ||| d < l.length := by rw [hlen] at hA hdl ⊢; exact or_lt3 hA hdl
    have h2 := sub_one h (A := A ||| d) (i := j) hjn hAd (by rw [Nat.testBit_or, hbj.1, hj]; rfl) C (by omega) hC hbj.2 (fun k hk => by
      rw [Nat.testBit_or, Bool.or_eq_true] at hk
      rcases hk with hk | hk
      · exact hAC k hk
      · exact (hb k hk).2)
    have e1 : A ||| C ||| (d ||| 2 ^ j) = A ||| d ||| C ||| 2 ^ j := by rw [← Nat.or_assoc, or_swap A C d]
    have e2 : A ||| (d ||| 2 ^ j) = A ||| d ||| 2 ^ j := (Nat.or_assoc ..).symm
    have e3 : A ||| d ||| C = A ||| C ||| d := or_swap ..
    rw [e1, e2]
    rw [e3] at h2 ⊢
    omega
theorem sub_pair {n : Int} {l : List Int} (h : subV n l = true) {s t : Nat} (hs : s < l.length) (ht : t < l.length) : l.getD (s ||| t) 0 + l.getD (s &&& t) 0 ≤ l.getD s 0 + l.getD t 0 := by
  have hf : fnV n l = true := by unfold subV at h; rw [Bool.and_eq_true] at h; exact h.1
  have hlen := fnV_len hf
  have hn := (fnV_iff.1 hf).1
  have hp6 := pow_le6 (g := n) ⟨hn.1, by omega⟩
  have hA : s &&& t < l.length := by
    have := Nat.and_le_left (n := s) (m := t); omega
  have hC : s ^^^ (s &&& t) < l.length := by rw [hlen] at hs hA ⊢; exact Nat.xor_lt_two_pow hs hA
  have hD : t ^^^ (s &&& t) < l.length := by rw [hlen] at ht hA ⊢; exact Nat.xor_lt_two_pow ht hA
  have := sub_dis h hA hC (fun j hj => by
    rw [Nat.testBit_xor, hj]; rw [Nat.testBit_and, Bool.and_eq_true] at hj; rw [hj.1]; rfl) (t ^^^ (s &&& t)) (by omega) hD (fun j hj => by
    rw [Nat.testBit_xor, Nat.testBit_and] at hj
    rw [Nat.testBit_xor, Nat.testBit_and]
    revert hj; cases Nat.testBit s j <;> cases Nat.testBit t j <;> decide)
  have e1 : s &&& t ||| s ^^^ (s &&& t) = s := by
    apply Nat.eq_of_testBit_eq; intro i; simp only [Nat.testBit_or, Nat.testBit_and, Nat.testBit_xor]; cases Nat.testBit s i <;> cases Nat.testBit t i <;> rfl
  have e2 : s &&& t ||| t ^^^ (s &&& t) = t := by
    apply Nat.eq_of_testBit_eq; intro i; simp only [Nat.testBit_or, Nat.testBit_and, Nat.testBit_xor]; cases Nat.testBit s i <;> cases Nat.testBit t i <;> rfl
  have e3 : s ||| t ^^^ (s &&& t) = s ||| t := by
    apply Nat.eq_of_testBit_eq; intro i; simp only [Nat.testBit_or, Nat.testBit_and, Nat.testBit_xor]; cases Nat.testBit s i <;> cases Nat.testBit t i <;> rfl
  rw [e1, e2, e3] at this
  omega
theorem bit_or (s i a : Nat) : Nat.testBit (s ||| 2 ^ i) a = (Nat.testBit s a || decide (i = a)) := by rw [Nat.testBit_or, Nat.testBit_two_pow]
theorem popAdd2_all : ((List.range 64).all fun s => (List.range 6).all fun b => Nat.testBit s b || decide (popN (s ||| 2 ^ b) = popN s + 1)) = true := by kernel_rfl
theorem popAdd2 {s b : Nat} (hs : s < 64) (hb : b < 6) (h : Nat.testBit s b = false) : popN (s ||| 2 ^ b) = popN s + 1 := by
  have := List.all_eq_true.1 (List.all_eq_true.1 popAdd2_all s (List.mem_range.2 hs)) b (List.mem_range.2 hb)
  rw [h, Bool.false_or, decide_eq_true_eq] at this; exact this
theorem bit_ne {s i k : Nat} (h : i ≠ k) (h2 : Nat.testBit s k = false) : Nat.testBit (s ||| 2 ^ i) k = false := by
  rw [bit_or, h2, decide_eq_false h]; rfl
theorem or_bit_same {s i : Nat} (h : Nat.testBit s i = true) : s ||| 2 ^ i = s := by
  apply Nat.eq_of_testBit_eq; intro j
  rw [bit_or]
  by_cases e : i = j
  · subst e; rw [h]; rfl
  · rw [decide_eq_false e, Bool.or_false]
theorem sub_mk {n : Int} {f : Int → Int} (hf : fnV n (mkL f (2 ^ n.toNat)) = true) (h : ∀ s i k : Nat, s < 2 ^ n.toNat → i < k → k < n.toNat → Nat.testBit s i = false → Nat.testBit s k = false → f ((s ||| 2 ^ i ||| 2 ^ k : Nat) : Int) + f (s : Int) ≤ f ((s ||| 2 ^ i : Nat) : Int) + f ((s ||| 2 ^ k : Nat) : Int)) : subV n (mkL f (2 ^ n.toNat)) = true := by
  refine sub_of hf fun s i k hs hik hk h1 h2 => ?_
  rw [mkL_len] at hs
  have hi : i < n.toNat := by omega
  unfold excV
  rw [mkL_get (or_lt (or_lt hs hi) hk), mkL_get hs, mkL_get (or_lt hs hi), mkL_get (or_lt hs hk)]
  have := h s i k hs hik hk h1 h2
  omega
theorem pol_mk {n : Int} {f : Int → Int} (hf : fnV n (mkL f (2 ^ n.toNat)) = true) (h0 : f 0 = 0) (hi : ∀ s i : Nat, s < 2 ^ n.toNat → i < n.toNat → f (s : Int) ≤ f ((s ||| 2 ^ i : Nat) : Int)) (hs : subV n (mkL f (2 ^ n.toNat)) = true) : polV n (mkL f (2 ^ n.toNat)) = true := by
  refine pol_iff.2 ⟨hf, ?_, ?_, hs⟩
  · rw [mkL_get (Nat.two_pow_pos _)]; exact h0
  · unfold incrV
    rw [mkL_len, List.all_eq_true]
    intro s hs'
    rw [List.mem_range] at hs'
    rw [List.all_eq_true]
    intro i hi'
    rw [List.mem_range] at hi'
    unfold gtP
    rw [mkL_get hs', mkL_get (or_lt hs' hi'), Bool.not_eq_true', decide_eq_false_iff_not]
    have := hi s i hs' hi'
    omega
theorem pol_mono {n : Int} {l : List Int} (h : polV n l = true) {s t : Nat} (ht : t < l.length) (hst : s &&& t = s) : l.getD s 0 ≤ l.getD t 0 := by
  have hp := pol_iff.1 h
  have hlen := fnV_len hp.1
  have hn := (fnV_iff.1 hp.1).1
  have hp6 : 2 ^ n.toNat ≤ 32 := Nat.le_trans (Nat.pow_le_pow_right (by omega) (show n.toNat ≤ 5 by omega)) (by decide)
  have key : ∀ d, d < 64 → s ||| d < l.length → l.getD s 0 ≤ l.getD (s ||| d) 0 := by
    refine bitsInd ?_ ?_
    · intro _; rw [Nat.or_zero]; exact Int.le_refl _
    · intro d i _ _ _ ih hlt
      have e : s ||| (d ||| 2 ^ i) = s ||| d ||| 2 ^ i := (Nat.or_assoc ..).symm
      rw [e] at hlt ⊢
      have h1 : s ||| d ≤ s ||| d ||| 2 ^ i := Nat.left_le_or
      have h2 : 2 ^ i ≤ s ||| d ||| 2 ^ i := Nat.right_le_or
      have hi : i < n.toNat := by
        refine Nat.lt_of_not_le fun hle => ?_
        have := Nat.pow_le_pow_right (n := 2) (by omega) hle; omega
      have h3 := ih (by omega)
      have h4 := incr_at hp.2.2.1 (s := s ||| d) (by omega) hi
      omega
  have e : s ||| t = t := by
    apply Nat.eq_of_testBit_eq; intro j
    have := congrArg (fun x => Nat.testBit x j) hst
    simp only [Nat.testBit_and] at this
    rw [Nat.testBit_or]
    revert this; cases Nat.testBit s j <;> cases Nat.testBit t j <;> decide
  have := key t (by omega) (by rw [e]; exact ht)
  rw [e] at this; exact this
end Go.Proofs.YthoionlldmfpiaaGreat
