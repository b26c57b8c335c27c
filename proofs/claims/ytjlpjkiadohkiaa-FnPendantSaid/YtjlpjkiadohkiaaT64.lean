import Derived.Test.YtjlpjkiadohkiaaT60
import Derived.Test.YtjlpjkiadohkiaaT61
import Derived.Test.YtjlpjkiadohkiaaHs
import Derived.Test.YtjlpjkiadohkiaaT62
set_option linter.unusedSimpArgs false
set_option linter.unusedVariables false
set_option maxHeartbeats 2000000
namespace Go.Proofs.Ytjlpjkiadohkiaa
open Go Go.Ab
attribute [local irreducible] aol
attribute [local irreducible] popN


theorem bitsInd {P : Nat → Prop} (h0 : P 0) (hs : ∀ d i, d < 64 → Nat.testBit d i = false → d ||| 2 ^ i < 64 → P d → P (d ||| 2 ^ i)) : ∀ d, d < 64 → P d := by
  intro d
  induction d using Nat.strongRecOn with
  | ind d ih =>
    intro hd
    by_cases e : d = 0
    · rw [e]; exact h0
    · obtain ⟨h1, h2, h3⟩ := topBit (s := d) (by omega) e
      obtain ⟨h4, h5⟩ := topBit2 (s := d) (by omega) e
      have := hs (d - 2 ^ d.log2) d.log2 (by omega) h5 (by omega) (ih _ (by omega) (by omega))
      rw [h2] at this; exact this
theorem or_lt3 {a b m : Nat} (ha : a < 2 ^ m) (hb : b < 2 ^ m) : a ||| b < 2 ^ m := Nat.or_lt_two_pow ha hb
/-- one element, any set C -/
theorem sub_one {n : Int} {l : List Int} (h : subV n l = true) {A i : Nat} (hi : i < n.toNat) (hA : A < l.length) (hAi : Nat.testBit A i = false) :
    ∀ C, C < 64 → C < l.length → Nat.testBit C i = false → (∀ j, Nat.testBit A j = true → Nat.testBit C j = false) → l.getD (A ||| C ||| 2 ^ i) 0 + l.getD A 0 ≤ l.getD (A ||| C) 0 + l.getD (A ||| 2 ^ i) 0 := by
  have hf : fnV n l = true := by unfold subV at h; rw [Bool.and_eq_true] at h; exact h.1
  have hlen := fnV_len hf
  have hn := (fnV_iff.1 hf).1
  refine bitsInd ?_ ?_
  · intro _ _ _; rw [Nat.or_zero]; omega
  · intro d j hd hj hdj ih hlt hbi hdis
    have hdl : d < l.length := by
      have : d ≤ d ||| 2 ^ j := Nat.left_le_or
      omega
    have hjn : j < n.toNat := by
      have h1 : 2 ^ j ≤ d ||| 2 ^ j := Nat.right_le_or
      refine Nat.lt_of_not_le fun hle => ?_
      have := Nat.pow_le_pow_right (n := 2) (by omega) hle; omega
    have hne : i ≠ j := fun e => by
      subst e
      rw [Nat.testBit_or, Nat.testBit_two_pow_self, Bool.or_true] at hbi; cases hbi
    have hdi : Nat.testBit d i = false := by rw [Nat.testBit_or, Bool.or_eq_false_iff] at hbi; exact hbi.1
    have hdis' : ∀ k, Nat.testBit A k = true → Nat.testBit d k = false := fun k hk => by
      have := hdis k hk; rw [Nat.testBit_or, Bool.or_eq_false_iff] at this; exact this.1
    have hAj : Nat.testBit A j = false := by
      cases e : Nat.testBit A j with
      | false => rfl
      | true => have := hdis j e; rw [Nat.testBit_or, Nat.testBit_two_pow_self, Bool.or_true] at this; cases this
    have h1 := ih hdl hdi hdis'
    have hlt2 : A ||| d < l.length := by rw [hlen] at hA hdl ⊢; exact or_lt3 hA hdl
    have h2 := sub_at h (s := A ||| d) hlt2 hne hi hjn (by rw [Nat.testBit_or, hAi, hdi]; rfl) (by rw [Nat.testBit_or, hAj, hj]; rfl)
    unfold excV at h2
    have e1 : A ||| (d ||| 2 ^ j) = A ||| d ||| 2 ^ j := (Nat.or_assoc ..).symm
    have e2 : A ||| d ||| 2 ^ j ||| 2 ^ i = A ||| d ||| 2 ^ i ||| 2 ^ j := or_swap ..
    rw [e1, e2]
    omega
theorem sub_dis {n : Int} {l : List Int} (h : subV n l = true) {A C : Nat} (hA : A < l.length) (hC : C < l.length) (hAC : ∀ j, Nat.testBit A j = true → Nat.testBit C j = false) :
    ∀ D, D < 64 → D < l.length → (∀ j, Nat.testBit D j = true → Nat.testBit A j = false ∧ Nat.testBit C j = false) → l.getD (A ||| C ||| D) 0 + l.getD A 0 ≤ l.getD (A ||| C) 0 + l.getD (A ||| D) 0 := by
  have hf : fnV n l = true := by unfold subV at h; rw [Bool.and_eq_true] at h; exact h.1
  have hlen := fnV_len hf
  have hn := (fnV_iff.1 hf).1
  have hp6 := pow_le6 (g := n) ⟨hn.1, by omega⟩
  refine bitsInd ?_ ?_
  · intro _ _; rw [Nat.or_zero, Nat.or_zero]; omega
  · intro d j hd hj hdj ih hlt hdis
    have hdl : d < l.length := by
      have : d ≤ d ||| 2 ^ j := Nat.left_le_or
      omega
    have hjn : j < n.toNat := by
      have h1 : 2 ^ j ≤ d ||| 2 ^ j := Nat.right_le_or
      refine Nat.lt_of_not_le fun hle => ?_
      have := Nat.pow_le_pow_right (n := 2) (by omega) hle; omega
    have hb := fun k (hk : Nat.testBit d k = true) => hdis k (by rw [Nat.testBit_or, hk]; rfl)
    have hbj := hdis j (by rw [Nat.testBit_or, Nat.testBit_two_pow_self, Bool.or_true])
    have h1 := ih hdl hb
    have hAd : A ||| d < l.length := by rw [hlen] at hA hdl ⊢; exact or_lt3 hA hdl
    have h2 := sub_one h (A := A ||| d) (i := j) hjn hAd (by rw [Nat.testBit_or, hbj.1, hj]; rfl) C (by omega) hC hbj.2 (fun k hk => by
      rw [Nat.testBit_or, Bool.or_eq_true] at hk
      rcases hk with hk | hk
      · exact hAC k hk
      · exact (hb k hk).2)
    have e1 : A ||| C ||| (d ||| 2 ^ j) = A ||| d ||| C ||| 2 ^ j := by rw [← Nat.or_assoc, or_swap A C d]
    have e2 : A ||| (d ||| 2 ^ j) = A ||| d ||| 2 ^ j := (Nat.or_assoc ..).symm
    have e3 : A ||| d ||| C = A ||| C ||| d := or_swap ..
    rw [e1, e2]
    rw [e3] at h2 ⊢
    omega
theorem sub_pair {n : Int} {l : List Int} (h : subV n l = true) {s t : Nat} (hs : s < l.length) (ht : t < l.length) : l.getD (s ||| t) 0 + l.getD (s &&& t) 0 ≤ l.getD s 0 + l.getD t 0 := by
  have hf : fnV n l = true := by unfold subV at h; rw [Bool.and_eq_true] at h; exact h.1
  have hlen := fnV_len hf
  have hn := (fnV_iff.1 hf).1
  have hp6 := pow_le6 (g := n) ⟨hn.1, by omega⟩
  have hA : s &&& t < l.length := by
    have := Nat.and_le_left (n := s) (m := t); omega
  have hC : s ^^^ (s &&& t) < l.length := by rw [hlen] at hs hA ⊢; exact Nat.xor_lt_two_pow hs hA
  have hD : t ^^^ (s &&& t) < l.length := by rw [hlen] at ht hA ⊢; exact Nat.xor_lt_two_pow ht hA
  have := sub_dis h hA hC (fun j hj => by
    rw [Nat.testBit_xor, hj]; rw [Nat.testBit_and, Bool.and_eq_true] at hj; rw [hj.1]; rfl) (t ^^^ (s &&& t)) (by omega) hD (fun j hj => by
    rw [Nat.testBit_xor, Nat.testBit_and] at hj
    rw [Nat.testBit_xor, Nat.testBit_and]
    revert hj; cases Nat.testBit s j <;> cases Nat.testBit t j <;> decide)
  have e1 : s &&& t ||| s ^^^ (s &&& t) = s := by
    apply Nat.eq_of_testBit_eq; intro i; simp only [Nat.testBit_or, Nat.testBit_and, Nat.testBit_xor]; cases Nat.testBit s i <;> cases Nat.testBit t i <;> rfl
  have e2 : s &&& t ||| t ^^^ (s &&& t) = t := by
    apply Nat.eq_of_testBit_eq; intro i; simp only [Nat.testBit_or, Nat.testBit_and, Nat.testBit_xor]; cases Nat.testBit s i <;> cases Nat.testBit t i <;> rfl
  have e3 : s ||| t ^^^ (s &&& t) = s ||| t := by
    apply Nat.eq_of_testBit_eq; intro i; simp only [Nat.testBit_or, Nat.testBit_and, Nat.testBit_xor]; cases Nat.testBit s i <;> cases Nat.testBit t i <;> rfl
  rw [e1, e2, e3] at this
  omega

theorem loB_min (l : List Int) (s : Nat) : ∀ e d, d < e → Nat.testBit s d = false → loK l s (loB l s e).toNat ≤ loK l s d
  | 0, d, h, _ => by omega
  | e + 1, d, h, hb => by
    obtain ⟨q1, q2, q3, q4⟩ := loB_spec l s e
    by_cases hc : Nat.testBit s e = false ∧ (loB l s e < 0 ∨ loK l s e < loK l s (loB l s e).toNat)
    · rw [loB_yes hc.1 hc.2, Int.toNat_natCast]
      by_cases hd : d = e
      · rw [hd]; exact Int.le_refl _
      · have h1 := loB_min l s e d (by omega) hb
        have h2 := q4 d (by omega) hb
        rcases hc.2 with h3 | h3 <;> omega
    · have hn : Nat.testBit s e = true ∨ (0 ≤ loB l s e ∧ loK l s (loB l s e).toNat ≤ loK l s e) := by
        cases hse : Nat.testBit s e with
        | true => exact .inl rfl
        | false => exact .inr (by
            have : ¬ (loB l s e < 0 ∨ loK l s e < loK l s (loB l s e).toNat) := fun h => hc ⟨hse, h⟩
            omega)
      rw [loB_no hn]
      by_cases hd : d = e
      · subst hd
        rcases hn with h1 | h1
        · rw [hb] at h1; cases h1
        · exact h1.2
      · exact loB_min l s e d (by omega) hb
def laW (l : List Int) (n a k : Nat) : Nat := (laO l n a k).2
def laV (l : List Int) (n a : Nat) : Nat → Nat
  | 0 => a
  | k + 1 => (loB l (laW l n a k) n).toNat
def laP (l : List Int) (n a : Nat) : Nat → Nat
  | 0 => 0
  | k + 1 => laW l n a k
theorem laW_eq (l : List Int) (n a : Nat) : ∀ k, laW l n a k = laP l n a k ||| 2 ^ laV l n a k
  | 0 => by show 2 ^ a = 0 ||| 2 ^ a; rw [Nat.zero_or]
  | _ + 1 => rfl
theorem laV_spec (l : List Int) {n a : Nat} (ha : a < n) (hn : n ≤ 5) {k : Nat} (hk : k + 1 < n) : laV l n a (k + 1) < n ∧ Nat.testBit (laW l n a k) (laV l n a (k + 1)) = false ∧
    (loB l (laW l n a k) n = laV l n a (k + 1)) ∧ ∀ d, d < n → Nat.testBit (laW l n a k) d = false → loK l (laW l n a k) (laV l n a (k + 1)) ≤ loK l (laW l n a k) d := by
  obtain ⟨g1, g2, g3, g4⟩ := laO_spec l ha hn k (by omega)
  obtain ⟨d, hd, hdb⟩ := room (by omega) g2 (by omega)
  obtain ⟨q1, q2, q3, q4⟩ := loB_spec l (laW l n a k) n
  have q0 : 0 ≤ loB l (laW l n a k) n := q4 d hd hdb
  refine ⟨by show (loB l (laW l n a k) n).toNat < n; omega, q3 q0, ?_, fun d hd hb => loB_min l _ n d hd hb⟩
  show _ = (((loB l (laW l n a k) n).toNat : Nat) : Int); omega
theorem queyranne {n : Int} {l : List Int} (h : subV n l = true) {a : Nat} (ha : a < n.toNat) : ∀ k, k + 1 < n.toNat → ∀ X y, y < n.toNat → Nat.testBit (laW l n.toNat a k) y = false →
    (∀ j, Nat.testBit X j = true → Nat.testBit (laP l n.toNat a k) j = true) →
    l.getD (laW l n.toNat a k) 0 + l.getD (2 ^ y) 0 ≤ l.getD (laW l n.toNat a k ^^^ X) 0 + l.getD (X ||| 2 ^ y) 0
  | 0, _, X, y, _, _, hX => by
    have : X = 0 := by
      apply Nat.eq_of_testBit_eq; intro i
      rw [Nat.zero_testBit]
      cases e : Nat.testBit X i with
      | false => rfl
      | true => have := hX i e; rw [show laP l n.toNat a 0 = 0 from rfl, Nat.zero_testBit] at this; cases this
    rw [this, Nat.xor_zero, Nat.zero_or]; omega
  | k + 1, hk, X, y, hy, hyW, hX => by
    have hf : fnV n l = true := by unfold subV at h; rw [Bool.and_eq_true] at h; exact h.1
    have hlen := fnV_len hf
    have hn := (fnV_iff.1 hf).1
    have ih := queyranne h ha k (by omega)
    obtain ⟨v1, v2, v3, v4⟩ := laV_spec l (n := n.toNat) ha (by omega) (k := k) (by omega)
    have hWs : laW l n.toNat a (k + 1) = laW l n.toNat a k ||| 2 ^ laV l n.toNat a (k + 1) := rfl
    have hWk := laW_eq l n.toNat a k
    obtain ⟨g1, g2, g3, g4⟩ := laO_spec l (n := n.toNat) ha (by omega) k (by omega)
    have hWlt : laW l n.toNat a k < 2 ^ n.toNat := g2
    have hylt : 2 ^ y < 2 ^ n.toNat := Nat.pow_lt_pow_right (by omega) hy
    have hvlt : 2 ^ laV l n.toNat a (k + 1) < 2 ^ n.toNat := Nat.pow_lt_pow_right (by omega) v1
    generalize hV : laV l n.toNat a (k + 1) = v at *
    generalize hU : laV l n.toNat a k = u at *
    generalize hPe : laP l n.toNat a k = p at *
    generalize hW : laW l n.toNat a k = w at *
    have hXw : ∀ j, Nat.testBit X j = true → Nat.testBit w j = true := fun j hj => by have := hX j hj; rw [show laP l n.toNat a (k + 1) = laW l n.toNat a k from rfl, hW] at this; exact this
    have hyw : Nat.testBit w y = false := by rw [hWs, Nat.testBit_or, Bool.or_eq_false_iff] at hyW; exact hyW.1
    have hyv : y ≠ v := fun e => by subst e; rw [hWs, Nat.testBit_or, Nat.testBit_two_pow_self, Bool.or_true] at hyW; cases hyW
    have hXlt : X < 2 ^ n.toNat := by
      refine Nat.lt_pow_two_of_testBit X fun i hi => ?_
      cases e : Nat.testBit X i with
      | false => rfl
      | true =>
        have h1 := hXw i e
        rw [Nat.testBit_lt_two_pow (Nat.lt_of_lt_of_le hWlt (Nat.pow_le_pow_right (by omega) hi))] at h1; cases h1
    have hb : ∀ i m : Nat, Nat.testBit (2 ^ m) i = decide (m = i) := fun i m => Nat.testBit_two_pow ..
    rw [hWs]
    cases hu : Nat.testBit X u with
    | true =>
      have h1 := ih (w ^^^ X) v v1 v2 (fun j hj => by
        have hxj := hXw j
        rw [hWk, Nat.testBit_xor, Nat.testBit_or, hb] at hj
        rw [hWk, Nat.testBit_or, hb] at hxj
        by_cases e : u = j
        · subst e; rw [hu] at hj; simp at hj
        · rw [decide_eq_false e, Bool.or_false] at hj hxj
          revert hj hxj; cases Nat.testBit p j <;> cases Nat.testBit X j <;> simp)
      have e1 : w ^^^ (w ^^^ X) = X := by rw [← Nat.xor_assoc, Nat.xor_self, Nat.zero_xor]
      have e2 : (w ^^^ X) ||| 2 ^ v = (w ||| 2 ^ v) ^^^ X := by
        apply Nat.eq_of_testBit_eq; intro i
        have hxi := hXw i
        simp only [Nat.testBit_or, Nat.testBit_xor, hb]
        by_cases e : v = i
        · subst e; rw [v2] at hxi ⊢
          cases hx : Nat.testBit X v with
          | false => simp
          | true => exact absurd (hxi hx) (by decide)
        · rw [decide_eq_false e, Bool.or_false, Bool.or_false]
      have h2 := sub_pair h (s := X ||| 2 ^ y) (t := w) (by rw [hlen]; exact or_lt3 hXlt hylt) (by rw [hlen]; exact hWlt)
      have e3 : X ||| 2 ^ y ||| w = w ||| 2 ^ y := by
        apply Nat.eq_of_testBit_eq; intro i
        have hxi := hXw i
        simp only [Nat.testBit_or]
        revert hxi; cases Nat.testBit X i <;> cases Nat.testBit w i <;> cases Nat.testBit (2 ^ y) i <;> simp
      have e4 : (X ||| 2 ^ y) &&& w = X := by
        apply Nat.eq_of_testBit_eq; intro i
        have hxi := hXw i
        simp only [Nat.testBit_or, Nat.testBit_and, hb]
        by_cases e : y = i
        · subst e; rw [hyw] at hxi ⊢
          cases hx : Nat.testBit X y with
          | false => simp
          | true => exact absurd (hxi hx) (by decide)
        · rw [decide_eq_false e, Bool.or_false]
          revert hxi; cases Nat.testBit X i <;> cases Nat.testBit w i <;> simp
      have h3 := v4 y hy hyw
      unfold loK at h3
      rw [e1, e2] at h1
      rw [e3, e4] at h2
      omega
    | false =>
      have h1 := ih X y hy hyw (fun j hj => by
        have hxj := hXw j hj
        rw [hWk, Nat.testBit_or, hb] at hxj
        by_cases e : u = j
        · subst e; rw [hu] at hj; cases hj
        · rw [decide_eq_false e, Bool.or_false] at hxj; exact hxj)
      have hs1 : (w ||| 2 ^ v) ^^^ X < 2 ^ n.toNat := Nat.xor_lt_two_pow (or_lt3 hWlt hvlt) hXlt
      have h2 := sub_pair h (s := (w ||| 2 ^ v) ^^^ X) (t := w) (by rw [hlen]; exact hs1) (by rw [hlen]; exact hWlt)
      have e3 : ((w ||| 2 ^ v) ^^^ X) ||| w = w ||| 2 ^ v := by
        apply Nat.eq_of_testBit_eq; intro i
        have hxi := hXw i
        simp only [Nat.testBit_or, Nat.testBit_xor]
        revert hxi; cases Nat.testBit X i <;> cases Nat.testBit w i <;> cases Nat.testBit (2 ^ v) i <;> simp
      have e4 : ((w ||| 2 ^ v) ^^^ X) &&& w = w ^^^ X := by
        apply Nat.eq_of_testBit_eq; intro i
        have hxi := hXw i
        simp only [Nat.testBit_or, Nat.testBit_xor, Nat.testBit_and]
        revert hxi; cases Nat.testBit X i <;> cases Nat.testBit w i <;> cases Nat.testBit (2 ^ v) i <;> simp
      rw [e3, e4] at h2
      omega
end Go.Proofs.Ytjlpjkiadohkiaa
