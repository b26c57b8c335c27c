import Derived.Test.YtjlpjkiadohkiaaT79
import Derived.Test.YtjlpjkiadohkiaaT80
import Derived.Test.YtjlpjkiadohkiaaHs
import Derived.Test.YtjlpjkiadohkiaaT28
set_option linter.unusedSimpArgs false
set_option linter.unusedVariables false
set_option maxHeartbeats 2000000
namespace Go.Proofs.Ytjlpjkiadohkiaa
open Go Go.Ab
attribute [local irreducible] aol
attribute [local irreducible] popN


theorem popMod_all : ((List.range 64).all fun s => (List.range 64).all fun t => decide (popN (s ||| t) + popN (s &&& t) = popN s + popN t)) = true := by kernel_rfl
theorem popMod {s t : Nat} (hs : s < 64) (ht : t < 64) : popN (s ||| t) + popN (s &&& t) = popN s + popN t :=
  of_decide_eq_true (List.all_eq_true.1 (List.all_eq_true.1 popMod_all s (List.mem_range.2 hs)) t (List.mem_range.2 ht))
theorem subC_all : ((List.range 64).all fun s => (List.range 64).all fun a => !decide (a &&& s = a) || (decide (popN (s - a) + popN a = popN s) && (decide ((s - a) &&& a = 0) && (decide ((s - a) ||| a = s) && decide ((s - a) &&& s = s - a))))) = true := by kernel_rfl
theorem subC {s a : Nat} (hs : s < 64) (ha : a &&& s = a) : popN (s - a) + popN a = popN s ∧ (s - a) &&& a = 0 ∧ (s - a) ||| a = s ∧ (s - a) &&& s = s - a := by
  have ha2 : a < 64 := by rw [← ha]; exact Nat.lt_of_le_of_lt Nat.and_le_right hs
  have := List.all_eq_true.1 (List.all_eq_true.1 subC_all s (List.mem_range.2 hs)) a (List.mem_range.2 ha2)
  rw [decide_eq_true ha, Bool.not_true, Bool.false_or, Bool.and_eq_true, Bool.and_eq_true, Bool.and_eq_true, decide_eq_true_eq, decide_eq_true_eq, decide_eq_true_eq, decide_eq_true_eq] at this
  exact this
theorem pop0 : popN 0 = 0 := by unfold popN; exact popF_zero 62
theorem mat_polF {n : Int} {l : List Int} (h : matV n l = true) : PolF n.toNat (fun s => l.getD s 0) := by
  have hp := pol_iff.1 (mat_pol h)
  have hlen := fnV_len hp.1
  refine ⟨hp.2.1, fun s t hs ht => ?_, fun s t ht hst => ?_⟩
  · exact sub_pair hp.2.2.2 (by omega) (by omega)
  · exact pol_mono (mat_pol h) (by omega) hst
theorem wV_nil0 (x : List Int) : ∀ n, wV x 0 n = 0
  | 0 => rfl
  | n + 1 => by rw [wV_0 (Nat.zero_testBit n), wV_nil0 x n]
theorem wV_single {x : List Int} {n i : Nat} (hi : i < n) : wV x (2 ^ i) n = x.getD i 0 := by
  have := wV_or (w := x) (s := 0) (e := i) (Nat.zero_testBit i) (n := n)
  rw [Nat.zero_or, wV_nil0, if_pos hi, Int.zero_add] at this
  exact this
theorem bits_of {x : List Int} : ∀ {n : Nat}, n ≤ 6 → (∀ i, i < n → x.getD i 0 = 0 ∨ x.getD i 0 = 1) → ∃ a : Nat, a < 2 ^ n ∧ (∀ s, s < 64 → wV x s n = (popN (s &&& a) : Int)) ∧ ∀ i, i < n → (Nat.testBit a i = true ↔ x.getD i 0 = 1)
  | 0, _, _ => ⟨0, by simp, fun s _ => by rw [Nat.and_zero, pop0]; rfl, fun i hi => by omega⟩
  | n + 1, hn, h => by
    obtain ⟨a, ha, hw, hb⟩ := bits_of (n := n) (by omega) fun i hi => h i (by omega)
    have ha6 : a < 64 := Nat.lt_of_lt_of_le ha (Nat.le_trans (Nat.pow_le_pow_right (by omega) (show n ≤ 6 by omega)) (by decide))
    rcases h n (by omega) with e | e
    · refine ⟨a, (lt_succ ha).1, fun s hs => ?_, fun i hi => ?_⟩
      · show wV x s n + (if Nat.testBit s n then x.getD n 0 else 0) = _
        rw [hw s hs, e]; split <;> omega
      · by_cases ei : i = n
        · subst ei; rw [bit_hi ha (Nat.le_refl _), e]; simp
        · exact hb i (by omega)
    · refine ⟨a + 2 ^ n, (lt_succ ha).2, fun s hs => ?_, fun i hi => ?_⟩
      · show wV x s n + (if Nat.testBit s n then x.getD n 0 else 0) = _
        rw [hw s hs, e, orT ha]
        cases eb : Nat.testBit s n with
        | true =>
          have e1 : s &&& (a ||| 2 ^ n) = (s &&& a) ||| 2 ^ n := by
            apply Nat.eq_of_testBit_eq; intro j
            rw [Nat.testBit_and, bit_or, bit_or, Nat.testBit_and]
            by_cases ej : n = j
            · subst ej; rw [eb]; simp
            · rw [decide_eq_false ej, Bool.or_false, Bool.or_false]
          have hlt : s &&& a < 64 := Nat.lt_of_le_of_lt Nat.and_le_left hs
          rw [e1, popAdd2 hlt (by omega) (by rw [Nat.testBit_and, bit_hi ha (Nat.le_refl _), Bool.and_false]), if_pos rfl]
          omega
        | false =>
          have e1 : s &&& (a ||| 2 ^ n) = s &&& a := by
            apply Nat.eq_of_testBit_eq; intro j
            rw [Nat.testBit_and, bit_or, Nat.testBit_and]
            by_cases ej : n = j
            · subst ej; rw [eb]; rfl
            · rw [decide_eq_false ej, Bool.or_false]
          rw [e1, if_neg (by decide), Int.add_zero]
      · rw [bitT ha]
        by_cases ei : i = n
        · subst ei; rw [decide_eq_true rfl, Bool.or_true, e]; simp
        · rw [decide_eq_false (fun h => ei h.symm), Bool.or_false]; exact hb i (by omega)
theorem and_full {n a : Nat} (h : a < 2 ^ n) : (2 ^ n - 1) &&& a = a := by
  rw [Nat.and_comm, Nat.and_two_pow_sub_one_eq_mod, Nat.mod_eq_of_lt h]
theorem mat_n5 {n : Int} {l : List Int} (h : matV n l = true) : (0 ≤ n ∧ n ≤ 5) ∧ l.length = 2 ^ n.toNat ∧ 2 ^ n.toNat ≤ 32 := by
  have hf := mat_fn h
  have hn := (fnV_iff.1 hf).1
  exact ⟨hn, fnV_len hf, Nat.le_trans (Nat.pow_le_pow_right (by omega) (show n.toNat ≤ 5 by omega)) (by decide)⟩
/-- A vector below a matroid's rank is a set. -/
theorem mat_bits {n : Int} {l x : List Int} (h : matV n l = true) (hx0 : ∀ i, i < n.toNat → 0 ≤ x.getD i 0) (hx : ∀ s, s < 2 ^ n.toNat → wV x s n.toNat ≤ l.getD s 0) :
    ∃ a, a < 2 ^ n.toNat ∧ (∀ s, s < 64 → wV x s n.toNat = (popN (s &&& a) : Int)) ∧ l.getD a 0 = (popN a : Int) ∧ ∀ i, i < n.toNat → (Nat.testBit a i = true ↔ x.getD i 0 = 1) := by
  obtain ⟨hn, hlen, h32⟩ := mat_n5 h
  obtain ⟨a, ha, hw, hb⟩ := bits_of (x := x) (n := n.toNat) (by omega) fun i hi => by
    have h1 := hx (2 ^ i) (Nat.pow_lt_pow_right (by omega) hi)
    rw [wV_single hi] at h1
    have h2 := one_at h hi
    have h3 := hx0 i hi
    omega
  refine ⟨a, ha, hw, ?_, hb⟩
  have h1 := hx a ha
  rw [hw a (by omega), Nat.and_self] at h1
  have h2 := mat_le h a (by omega)
  omega
theorem mat_inter {n : Int} {l l' : List Int} (h1 : matV n l = true) (h2 : matV n l' = true) {k : Int} (hk : ∀ A, A < 2 ^ n.toNat → k ≤ l.getD A 0 + l'.getD (2 ^ n.toNat - 1 - A) 0) :
    ∃ a, a < 2 ^ n.toNat ∧ l.getD a 0 = (popN a : Int) ∧ l'.getD a 0 = (popN a : Int) ∧ k ≤ (popN a : Int) := by
  obtain ⟨hn, hlen, h32⟩ := mat_n5 h1
  obtain ⟨_, hlen', _⟩ := mat_n5 h2
  obtain ⟨x, _, hx0, hxf, hxg, hxk⟩ := pol_inter n.toNat _ _ k (mat_polF h1) (mat_polF h2) hk
  obtain ⟨a, ha, hw, hi, _⟩ := mat_bits h1 hx0 hxf
  refine ⟨a, ha, hi, ?_, ?_⟩
  · have h3 := hxg a ha
    rw [hw a (by omega), Nat.and_self] at h3
    have h4 := mat_le h2 a (by omega)
    omega
  · rw [hw (2 ^ n.toNat - 1) (by omega), and_full ha] at hxk; exact hxk
theorem ind_sub {n : Int} {l : List Int} (h : matV n l = true) {a s : Nat} (hs : s < 2 ^ n.toNat) (has : a &&& s = a) (hi : l.getD s 0 = (popN s : Int)) : l.getD a 0 = (popN a : Int) := by
  obtain ⟨hn, hlen, h32⟩ := mat_n5 h
  have ha : a < 2 ^ n.toNat := by rw [← has]; exact Nat.lt_of_le_of_lt Nat.and_le_right hs
  obtain ⟨c1, c2, c3, c4⟩ := subC (s := s) (a := a) (by omega) has
  have hp := pol_iff.1 (mat_pol h)
  have h1 := sub_pair hp.2.2.2 (s := s - a) (t := a) (by omega) (by omega)
  rw [c2, c3, hp.2.1] at h1
  have h2 := mat_le h (s - a) (by omega)
  have h3 := mat_le h a (by omega)
  omega
theorem lgV_spec {p : Int → Bool} (h0 : p 0 = true) : ∀ m, 0 < m → lgV p m < m ∧ p (lgV p m : Int) = true ∧ ∀ k : Nat, k < m → p (k : Int) = true → popN k ≤ popN (lgV p m)
  | 0, h => by omega
  | 1, _ => by
    rw [lgV_1]
    refine ⟨by omega, h0, fun k hk _ => ?_⟩
    obtain rfl : k = 0 := by omega
    exact Nat.le_refl _
  | m + 2, _ => by
    obtain ⟨h1, h2, h3⟩ := lgV_spec h0 (m + 1) (by omega)
    by_cases hc : popN (lgV p (m + 1)) < popN (m + 1) ∧ p ((m + 1 : Nat) : Int) = true
    · rw [lgV_yes hc.1 hc.2]
      refine ⟨by omega, hc.2, fun k hk hp => ?_⟩
      by_cases e : k = m + 1
      · subst e; exact Nat.le_refl _
      · have := h3 k (by omega) hp; omega
    · have e := lgV_no (p := p) (k := m + 1) (by
        by_cases h4 : popN (lgV p (m + 1)) < popN (m + 1)
        · right; exact Bool.eq_false_iff.2 fun h5 => hc ⟨h4, h5⟩
        · left; omega)
      rw [e]
      refine ⟨by omega, h2, fun k hk hp => ?_⟩
      by_cases e : k = m + 1
      · subst e
        refine Nat.le_of_not_lt fun h4 => hc ⟨h4, hp⟩
      · exact h3 k (by omega) hp
/-- The largest common independent set has as many elements as the bound. -/
theorem inter_eq {n n' : Int} {l l' : List Int} (h : areV n l n' l' = true) {k : Int} (hk : ∀ A, A < 2 ^ n.toNat → k ≤ l.getD A 0 + l'.getD (2 ^ n.toNat - 1 - A) 0) {A0 : Nat} (hA0 : A0 < 2 ^ n.toNat) (hkA : k = l.getD A0 0 + l'.getD (2 ^ n.toNat - 1 - A0) 0) :
    (popN (lgV (lcP l l') (2 ^ n.toNat)) : Int) = k ∧ lcP l l' (lgV (lcP l l') (2 ^ n.toNat) : Nat) = true ∧ lgV (lcP l l') (2 ^ n.toNat) < 2 ^ n.toNat := by
  obtain ⟨h1, h2, rfl⟩ := are_iff.1 h
  obtain ⟨hn, hlen, h32⟩ := mat_n5 h1
  obtain ⟨_, hlen', _⟩ := mat_n5 h2
  have hp1 := pol_iff.1 (mat_pol h1)
  have hp2 := pol_iff.1 (mat_pol h2)
  have hcp : ∀ s : Nat, lcP l l' (s : Int) = true ↔ l.getD s 0 = (popN s : Int) ∧ l'.getD s 0 = (popN s : Int) := fun s => by
    unfold lcP freeV; rw [Int.toNat_natCast, Bool.and_eq_true, decide_eq_true_eq, decide_eq_true_eq]
  have h0 : lcP l l' 0 = true := (hcp 0).2 ⟨by rw [hp1.2.1, pop0]; rfl, by rw [hp2.2.1, pop0]; rfl⟩
  obtain ⟨a, ha, i1, i2, hka⟩ := mat_inter h1 h2 hk
  obtain ⟨g1, g2, g3⟩ := lgV_spec h0 (2 ^ n.toNat) (Nat.two_pow_pos _)
  have h3 := g3 a ha ((hcp a).2 ⟨i1, i2⟩)
  obtain ⟨j1, j2⟩ := (hcp _).1 g2
  refine ⟨?_, g2, g1⟩
  generalize lgV (lcP l l') (2 ^ n.toNat) = t at *
  have m1 : t &&& A0 < 2 ^ n.toNat := Nat.lt_of_le_of_lt Nat.and_le_left g1
  have u1 := ind_sub h1 (a := t &&& A0) g1 (by rw [Nat.and_comm t A0, Nat.and_assoc, Nat.and_self]) j1
  have u2 := ind_sub h2 (a := t &&& (2 ^ n.toNat - 1 - A0)) g1 (by rw [Nat.and_comm t _, Nat.and_assoc, Nat.and_self]) j2
  have v1 := pol_mono (mat_pol h1) (s := t &&& A0) (t := A0) (by omega) (by rw [Nat.and_assoc, Nat.and_self])
  have v2 := pol_mono (mat_pol h2) (s := t &&& (2 ^ n.toNat - 1 - A0)) (t := 2 ^ n.toNat - 1 - A0) (by omega) (by rw [Nat.and_assoc, Nat.and_self])
  have pm := popMod (s := t &&& A0) (t := t &&& (2 ^ n.toNat - 1 - A0)) (by omega) (Nat.lt_of_le_of_lt Nat.and_le_left (by omega))
  have e1 : (t &&& A0) ||| (t &&& (2 ^ n.toNat - 1 - A0)) = t := by
    apply Nat.eq_of_testBit_eq; intro j
    rw [Nat.testBit_or, Nat.testBit_and, Nat.testBit_and, cplN hA0]
    by_cases hj : j < n.toNat
    · rw [decide_eq_true hj]; cases Nat.testBit t j <;> cases Nat.testBit A0 j <;> rfl
    · rw [bit_hi g1 (by omega)]; rfl
  have e2 : (t &&& A0) &&& (t &&& (2 ^ n.toNat - 1 - A0)) = 0 := by
    apply Nat.eq_of_testBit_eq; intro j
    rw [Nat.testBit_and, Nat.testBit_and, Nat.testBit_and, cplN hA0, Nat.zero_testBit]
    cases Nat.testBit t j <;> cases Nat.testBit A0 j <;> cases decide (j < n.toNat) <;> rfl
  rw [e1, e2, pop0] at pm
  omega
end Go.Proofs.Ytjlpjkiadohkiaa
