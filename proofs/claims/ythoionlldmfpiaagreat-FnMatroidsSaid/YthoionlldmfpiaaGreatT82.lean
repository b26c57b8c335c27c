import Derived.Test.YthoionlldmfpiaaGreatT79
import Derived.Test.YthoionlldmfpiaaGreatT80
import Derived.Test.YthoionlldmfpiaaGreatHs
import Derived.Test.YthoionlldmfpiaaGreatT28
set_option linter.unusedSimpArgs false
set_option linter.unusedVariables false
set_option maxHeartbeats 2000000
namespace Go.Proofs.YthoionlldmfpiaaGreat
open Go Go.Ab
attribute [local irreducible] aol
attribute [local irreducible] popN
theorem subC_all : ((List.range 64).all fun s => (List.range 64).all fun a => !decide (a &&& s = a) || (decide (popN (s - a) + popN a = popN s) && (decide ((s - a) &&& a = 0) && (decide ((s - a) ||| a = s) && decide ((s - a) &&& s = s - a))))) = true := by kernel_rfl
theorem subC {s a : Nat} (hs : s < 64) (ha : a &&& s = a) : popN (s - a) + popN a = popN s ∧ (s - a) &&& a = 0 ∧ (s - a) ||| a = s ∧ (s - a) &&& s = s - a := by
  have ha2 : a < 64 := by rw [← ha]; exact Nat.lt_of_le_of_lt Nat.and_le_right hs
  have := List.all_eq_true.1 (List.all_eq_true.1 subC_all s (List.mem_range.2 hs)) a (List.mem_range.2 ha2)
  rw [decide_eq_true ha, Bool.not_true, Bool.false_or, Bool.and_eq_true, Bool.and_eq_true, Bool.and_eq_true, decide_eq_true_eq, decide_eq_true_eq, decide_eq_true_eq, decide_eq_true_eq] at this
  exact this
theorem pop0 : popN 0 = 0 := by unfold popN; exact popF_zero 62
theorem sub_ext {a s : Nat} : a &&& s = a ↔ ∀ j, Nat.testBit a j = true → Nat.testBit s j = true := by
  constructor
  · intro h j hj
    rw [← h, Nat.testBit_and, Bool.and_eq_true] at hj; exact hj.2
  · intro h
    apply Nat.eq_of_testBit_eq; intro j
    rw [Nat.testBit_and]
    cases e : Nat.testBit a j with
    | false => rfl
    | true => rw [h j e]; rfl
theorem bits_of {x : List Int} : ∀ {n : Nat}, n ≤ 6 → (∀ i, i < n → x.getD i 0 = 0 ∨ x.getD i 0 = 1) → ∃ a : Nat, a < 2 ^ n ∧ (∀ s, s < 64 → wV x s n = (popN (s &&& a) : Int)) ∧ ∀ i, i < n → (Nat.testBit a i = true ↔ x.getD i 0 = 1)
  | 0, _, _ => ⟨0, by simp, fun s _ => by rw [Nat.and_zero, pop0]; rfl, fun i hi => by omega⟩
  | n + 1, hn, h => by
    obtain ⟨a, ha, hw, hb⟩ := bits_of (n := n) (by omega) fun i hi => h i (by omega)
    have ha6 : a < 64 := Nat.lt_of_lt_of_le ha (Nat.le_trans (Nat.pow_le_pow_right (by omega) (show n ≤ 6 by omega)) (by decide))
    rcases h n (by omega) with e | e
    · refine ⟨a, (lt_succ ha).1, fun s hs => ?_, fun i hi => ?_⟩
      · show wV x s n + (if Nat.testBit s n then x.getD n 0 else 0) = _
        rw [hw s hs, e]; split <;> omega
      · by_cases ei : i = n
        · subst ei; rw [bit_hi ha (Nat.le_refl _), e]; simp
        · exact hb i (by omega)
    · refine ⟨a + 2 ^ n, (lt_succ ha).2, fun s hs => ?_, fun i hi => ?_⟩
      · show wV x s n + (if Nat.testBit s n then x.getD n 0 else 0) = _
        rw [hw s hs, e, orT ha]
        cases eb : Nat.testBit s n with
        | true =>
          have e1 : s &&& (a ||| 2 ^ n) = (s &&& a) ||| 2 ^ n := by
            apply Nat.eq_of_testBit_eq; intro j
            rw [Nat.testBit_and, bit_or, bit_or, Nat.testBit_and]
            by_cases ej : n = j
            · subst ej; rw [eb]; simp
            · rw [decide_eq_false ej, Bool.or_false, Bool.or_false]
          have hlt : s &&& a < 64 := Nat.lt_of_le_of_lt Nat.and_le_left hs
          rw [e1, popAdd2 hlt (by omega) (by rw [Nat.testBit_and, bit_hi ha (Nat.le_refl _), Bool.and_false]), if_pos rfl]
          omega
        | false =>
          have e1 : s &&& (a ||| 2 ^ n) = s &&& a := by
            apply Nat.eq_of_testBit_eq; intro j
            rw [Nat.testBit_and, bit_or, Nat.testBit_and]
            by_cases ej : n = j
            · subst ej; rw [eb]; rfl
            · rw [decide_eq_false ej, Bool.or_false]
          rw [e1, if_neg (by decide), Int.add_zero]
      · rw [bitT ha]
        by_cases ei : i = n
        · subst ei; rw [decide_eq_true rfl, Bool.or_true, e]; simp
        · rw [decide_eq_false (fun h => ei h.symm), Bool.or_false]; exact hb i (by omega)
theorem and_full {n a : Nat} (h : a < 2 ^ n) : (2 ^ n - 1) &&& a = a := by
  rw [Nat.and_comm, Nat.and_two_pow_sub_one_eq_mod, Nat.mod_eq_of_lt h]
theorem mat_n5 {n : Int} {l : List Int} (h : matV n l = true) : (0 ≤ n ∧ n ≤ 5) ∧ l.length = 2 ^ n.toNat ∧ 2 ^ n.toNat ≤ 32 := by
  have hf := mat_fn h
  have hn := (fnV_iff.1 hf).1
  exact ⟨hn, fnV_len hf, Nat.le_trans (Nat.pow_le_pow_right (by omega) (show n.toNat ≤ 5 by omega)) (by decide)⟩
theorem ind_sub {n : Int} {l : List Int} (h : matV n l = true) {a s : Nat} (hs : s < 2 ^ n.toNat) (has : a &&& s = a) (hi : l.getD s 0 = (popN s : Int)) : l.getD a 0 = (popN a : Int) := by
  obtain ⟨hn, hlen, h32⟩ := mat_n5 h
  have ha : a < 2 ^ n.toNat := by rw [← has]; exact Nat.lt_of_le_of_lt Nat.and_le_right hs
  obtain ⟨c1, c2, c3, c4⟩ := subC (s := s) (a := a) (by omega) has
  have hp := pol_iff.1 (mat_pol h)
  have h1 := sub_pair hp.2.2.2 (s := s - a) (t := a) (by omega) (by omega)
  rw [c2, c3, hp.2.1] at h1
  have h2 := mat_le h (s - a) (by omega)
  have h3 := mat_le h a (by omega)
  omega
theorem max_ind {n : Int} {l : List Int} (h : matV n l = true) : ∀ s, s < 2 ^ n.toNat → ∃ a, a &&& s = a ∧ l.getD a 0 = (popN a : Int) ∧ (popN a : Int) = l.getD s 0 := by
  obtain ⟨hn, hlen, h32⟩ := mat_n5 h
  have hp := pol_iff.1 (mat_pol h)
  intro s
  induction s using Nat.strongRecOn with
  | ind s ih =>
    intro hs
    by_cases h0 : s = 0
    · refine ⟨0, Nat.zero_and s, ?_, ?_⟩
      · rw [hp.2.1, pop0]; rfl
      · rw [h0, hp.2.1, pop0]; rfl
    · obtain ⟨t1, t2, t3⟩ := topBit (s := s) (by omega) h0
      obtain ⟨t4, t5⟩ := topBit2 (s := s) (by omega) h0
      generalize he : s.log2 = e at t1 t2 t3 t4 t5
      generalize hs' : s - 2 ^ e = s' at t1 t2 t4 t5
      obtain ⟨a, ha, hi, hsz⟩ := ih s' t1 (by omega)
      have heN : e < n.toNat := Nat.lt_of_not_le fun hle => by
        have := Nat.pow_le_pow_right (n := 2) (by omega) hle; omega
      have ha64 : a < 64 := by rw [← ha]; exact Nat.lt_of_le_of_lt Nat.and_le_right (by omega)
      have hae : Nat.testBit a e = false := by
        cases hb : Nat.testBit a e with
        | false => rfl
        | true => rw [sub_ext.1 ha e hb] at t5; cases t5
      have has : a &&& s = a := by
        rw [sub_ext]; intro j hj
        rw [← t2, Nat.testBit_or, sub_ext.1 ha j hj]; rfl
      have g1 := gain_le (mat_pol h) heN s' (by omega) t5
      rw [t2] at g1
      have g2 := one_at h heN
      have g3 := incr_at hp.2.2.1 (s := s') (i := e) (by omega) heN
      rw [t2] at g3
      by_cases hc : l.getD s 0 = l.getD s' 0
      · exact ⟨a, has, hi, by rw [hc]; exact hsz⟩
      · have ha2 : a < 2 ^ n.toNat := by rw [← has]; exact Nat.lt_of_le_of_lt Nat.and_le_right hs
        have hae2 : a ||| 2 ^ e < 2 ^ n.toNat := or_lt ha2 heN
        have hpa := popAdd2 (s := a) (b := e) ha64 (by omega) hae
        have hsub := sub_pair hp.2.2.2 (s := a ||| 2 ^ e) (t := s') (by omega) (by omega)
        have e1 : (a ||| 2 ^ e) ||| s' = s := by
          apply Nat.eq_of_testBit_eq; intro j
          rw [← t2, Nat.testBit_or, Nat.testBit_or, Nat.testBit_or]
          cases hb : Nat.testBit a j with
          | false => cases Nat.testBit s' j <;> cases Nat.testBit (2 ^ e) j <;> rfl
          | true => rw [sub_ext.1 ha j hb]; rfl
        have e2 : (a ||| 2 ^ e) &&& s' = a := by
          apply Nat.eq_of_testBit_eq; intro j
          rw [Nat.testBit_and, bit_or]
          cases hb : Nat.testBit a j with
          | true => rw [sub_ext.1 ha j hb]; rfl
          | false =>
            by_cases ej : e = j
            · subst ej; rw [t5, Bool.and_false]
            · rw [decide_eq_false ej]; rfl
        rw [e1, e2] at hsub
        have hle := mat_le h (a ||| 2 ^ e) (by omega)
        refine ⟨a ||| 2 ^ e, ?_, by omega, by omega⟩
        rw [sub_ext]; intro j hj
        rw [bit_or, Bool.or_eq_true, decide_eq_true_eq] at hj
        rw [← t2, bit_or]
        rcases hj with hj | hj
        · rw [sub_ext.1 ha j hj]; rfl
        · rw [decide_eq_true hj, Bool.or_true]
end Go.Proofs.YthoionlldmfpiaaGreat
namespace Go.Proofs.YthoionlldmfpiaaGreat
open Go Go.Ab
attribute [local irreducible] aol
attribute [local irreducible] popN
theorem pop_full {n : Nat} (h : n ≤ 6) {t : Nat} (ht : t < 2 ^ n) : popN (2 ^ n - 1 - t) + popN t = n := by
  have h64 : 2 ^ n ≤ 64 := Nat.le_trans (Nat.pow_le_pow_right (by omega) h) (by decide)
  have h1 := (subC (s := 2 ^ n - 1) (a := t) (by omega) (by rw [Nat.and_comm]; exact and_full ht)).1
  have h2 := popComp (n := n) (s := 0) (by omega) (by omega)
  have e : nandn (2 ^ n - 1) 0 = 2 ^ n - 1 := by rw [nfull (by omega) (by omega)]; omega
  rw [e, pop0] at h2
  omega
end Go.Proofs.YthoionlldmfpiaaGreat
