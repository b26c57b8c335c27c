import Derived.Test.YtjlpjkiadohkiaaT81
import Derived.Test.YtjlpjkiadohkiaaHs
import Derived.Test.YtjlpjkiadohkiaaT25
set_option linter.unusedSimpArgs false
set_option linter.unusedVariables false
set_option maxHeartbeats 2000000
namespace Go.Proofs.Ytjlpjkiadohkiaa
open Go Go.Ab
attribute [local irreducible] aol
attribute [local irreducible] popN


theorem sub_bit {x u : Nat} (hx : x < 64) (hu : u &&& x = u) (j : Nat) : Nat.testBit (x - u) j = (Nat.testBit x j && !Nat.testBit u j) := by
  obtain ⟨_, h1, h2, _⟩ := subC hx hu
  have e1 := congrArg (fun y => Nat.testBit y j) h1
  have e2 := congrArg (fun y => Nat.testBit y j) h2
  simp only [Nat.testBit_and, Nat.testBit_or, Nat.zero_testBit] at e1 e2
  rw [← e2]
  revert e1; cases Nat.testBit (x - u) j <;> cases Nat.testBit u j <;> decide
theorem urV_spec {l l' : List Int} {s : Nat} (hs : s < 64) : ∀ k, k ≤ 64 → (∀ t, t < k → t &&& s = t → urV l l' s k ≤ urT l l' s t) ∧ urV l l' s k ≤ popN s ∧ (urV l l' s k = popN s ∨ ∃ t, t < k ∧ t &&& s = t ∧ urV l l' s k = urT l l' s t)
  | 0, _ => ⟨fun t ht => by omega, Int.le_refl _, .inl rfl⟩
  | k + 1, hk => by
    obtain ⟨h1, h0, h2⟩ := urV_spec (l := l) (l' := l') hs k (by omega)
    have hi : iand (k : Int) (s : Int) = ((k &&& s : Nat) : Int) := iand_nat (by omega) (by omega)
    by_cases hc : k &&& s = k
    · have e := urV_yes (l := l) (l' := l') (s := s) (k := k) (by rw [hi, hc])
      rw [e]
      by_cases hlt : urT l l' s k < urV l l' s k
      · rw [if_pos hlt]
        refine ⟨fun t ht hts => ?_, by omega, .inr ⟨k, by omega, hc, rfl⟩⟩
        by_cases et : t = k
        · subst et; exact Int.le_refl _
        · have := h1 t (by omega) hts; omega
      · rw [if_neg hlt]
        refine ⟨fun t ht hts => ?_, h0, ?_⟩
        · by_cases et : t = k
          · subst et; omega
          · exact h1 t (by omega) hts
        · rcases h2 with h2 | ⟨t, a1, a2, a3⟩
          · exact .inl h2
          · exact .inr ⟨t, by omega, a2, a3⟩
    · have e := urV_no (l := l) (l' := l') (s := s) (k := k) (fun h => hc (by rw [hi] at h; omega))
      rw [e]
      refine ⟨fun t ht hts => ?_, h0, ?_⟩
      · by_cases et : t = k
        · subst et; exact absurd hts hc
        · exact h1 t (by omega) hts
      · rcases h2 with h2 | ⟨t, a1, a2, a3⟩
        · exact .inl h2
        · exact .inr ⟨t, by omega, a2, a3⟩
theorem ur_spec {n n' : Int} {l l' : List Int} (h : areV n l n' l' = true) {s : Nat} (hs : s < 2 ^ n.toNat) :
    (∀ t, t &&& s = t → urF l l' (s : Int) ≤ l.getD t 0 + l'.getD t 0 + (popN (s - t) : Int)) ∧ ∃ t, t &&& s = t ∧ urF l l' (s : Int) = l.getD t 0 + l'.getD t 0 + (popN (s - t) : Int) := by
  obtain ⟨h1, h2, rfl⟩ := are_iff.1 h
  obtain ⟨hn, hlen, h32⟩ := mat_n5 h1
  obtain ⟨a1, a0, a2⟩ := urV_spec (l := l) (l' := l') (s := s) (by omega) (s + 1) (by omega)
  have e : urF l l' (s : Int) = urV l l' s (s + 1) := by unfold urF; rw [Int.toNat_natCast]
  rw [e]
  refine ⟨fun t ht => a1 t ?_ ht, ?_⟩
  · have : t ≤ s := by rw [← ht]; exact Nat.and_le_right
    omega
  · rcases a2 with a2 | ⟨t, _, b2, b3⟩
    · refine ⟨0, Nat.zero_and s, ?_⟩
      have e1 := (pol_iff.1 (mat_pol h1)).2.1
      have e2 := (pol_iff.1 (mat_pol h2)).2.1
      rw [e1, e2, Nat.sub_zero, a2]; omega
    · exact ⟨t, b2, b3⟩
def unL (n : Int) (l l' : List Int) : List Int := mkL (urF l l') (2 ^ n.toNat)
theorem un_mat {n n' : Int} {l l' : List Int} (h : areV n l n' l' = true) : matV n (unL n l l') = true := by
  have hf : fnV n (mkL (urF l l') (2 ^ n.toNat)) = true := ur_fn h
  obtain ⟨h1, h2, rfl⟩ := are_iff.1 h
  obtain ⟨hn, hlen, h32⟩ := mat_n5 h1
  obtain ⟨_, hlen', _⟩ := mat_n5 h2
  have hp1 := pol_iff.1 (mat_pol h1)
  have hp2 := pol_iff.1 (mat_pol h2)
  unfold matV unL
  rw [Bool.and_eq_true]
  refine ⟨pol_mk hf ?_ (fun s i hs hi => ?_) (sub_mk hf fun s i k hs hik hk b1 b2 => ?_), ?_⟩
  · obtain ⟨_, t, ht, e⟩ := ur_spec h (s := 0) (Nat.two_pow_pos _)
    have : t = 0 := by rw [← ht, Nat.and_zero]
    subst this
    rw [hp1.2.1, hp2.2.1, Nat.sub_zero, pop0] at e
    exact e
  · have hsi : s ||| 2 ^ i < 2 ^ n.toNat := or_lt hs hi
    obtain ⟨_, t, ht, e⟩ := ur_spec h hsi
    obtain ⟨a1, _⟩ := ur_spec h hs
    have ht2 : t < 2 ^ n.toNat := by rw [← ht]; exact Nat.lt_of_le_of_lt Nat.and_le_right hsi
    have g := a1 (t &&& s) (by rw [Nat.and_assoc, Nat.and_self])
    have m1 := pol_mono (mat_pol h1) (s := t &&& s) (t := t) (by omega) (by rw [Nat.and_comm t s, Nat.and_assoc, Nat.and_self])
    have m2 := pol_mono (mat_pol h2) (s := t &&& s) (t := t) (by omega) (by rw [Nat.and_comm t s, Nat.and_assoc, Nat.and_self])
    have c1 := (subC (s := s) (a := t &&& s) (by omega) (by rw [Nat.and_assoc, Nat.and_self])).1
    have c2 := (subC (s := s ||| 2 ^ i) (a := t) (by omega) ht).1
    have pm := popMod (s := t) (t := s) (by omega) (by omega)
    have hto : t ||| s < 2 ^ n.toNat := Nat.or_lt_two_pow ht2 hs
    have c3 := (subC (s := s ||| 2 ^ i) (a := t ||| s) (by omega) (by
      rw [sub_ext]; intro j hj
      rw [Nat.testBit_or, Bool.or_eq_true] at hj
      rcases hj with hj | hj
      · exact sub_ext.1 ht j hj
      · rw [Nat.testBit_or, hj]; rfl)).1
    omega
  · have hi : i < n.toNat := by omega
    have hS : s ||| 2 ^ i < 2 ^ n.toNat := or_lt hs hi
    have hU : s ||| 2 ^ k < 2 ^ n.toNat := or_lt hs hk
    have hSU : (s ||| 2 ^ i) ||| (s ||| 2 ^ k) = s ||| 2 ^ i ||| 2 ^ k := by
      apply Nat.eq_of_testBit_eq; intro j
      rw [Nat.testBit_or, bit_or, bit_or, bit_or, bit_or]
      cases Nat.testBit s j <;> cases decide (i = j) <;> cases decide (k = j) <;> rfl
    have hSI : (s ||| 2 ^ i) &&& (s ||| 2 ^ k) = s := by
      apply Nat.eq_of_testBit_eq; intro j
      rw [Nat.testBit_and, bit_or, bit_or]
      by_cases e1 : i = j
      · subst e1; rw [b1, decide_eq_false (show ¬ k = i by omega)]; simp
      · rw [decide_eq_false e1]; cases Nat.testBit s j <;> simp
    obtain ⟨_, T, hT, eT⟩ := ur_spec h hS
    obtain ⟨_, W, hW, eW⟩ := ur_spec h hU
    obtain ⟨gO, _⟩ := ur_spec h (or_lt hS hk)
    obtain ⟨gI, _⟩ := ur_spec h hs
    have hT2 : T < 2 ^ n.toNat := by rw [← hT]; exact Nat.lt_of_le_of_lt Nat.and_le_right hS
    have hW2 : W < 2 ^ n.toNat := by rw [← hW]; exact Nat.lt_of_le_of_lt Nat.and_le_right hU
    have sO : (T ||| W) &&& (s ||| 2 ^ i ||| 2 ^ k) = T ||| W := by
      rw [← hSU, sub_ext]; intro j hj
      rw [Nat.testBit_or, Bool.or_eq_true] at hj
      rw [Nat.testBit_or]
      rcases hj with hj | hj
      · rw [sub_ext.1 hT j hj]; rfl
      · rw [sub_ext.1 hW j hj, Bool.or_true]
    have sI : (T &&& W) &&& s = T &&& W := by
      have : (T &&& W) &&& ((s ||| 2 ^ i) &&& (s ||| 2 ^ k)) = T &&& W := by
        rw [sub_ext]; intro j hj
        rw [Nat.testBit_and, Bool.and_eq_true] at hj
        rw [Nat.testBit_and, sub_ext.1 hT j hj.1, sub_ext.1 hW j hj.2]; rfl
      rw [hSI] at this; exact this
    have q1 := gO _ sO
    have q2 := gI _ sI
    have r1 := sub_pair hp1.2.2.2 (s := T) (t := W) (by omega) (by omega)
    have r2 := sub_pair hp2.2.2.2 (s := T) (t := W) (by omega) (by omega)
    have hO2 : s ||| 2 ^ i ||| 2 ^ k < 2 ^ n.toNat := or_lt hS hk
    have c1 := (subC (s := s ||| 2 ^ i) (by omega) hT).1
    have c2 := (subC (s := s ||| 2 ^ k) (by omega) hW).1
    have c3 := (subC (s := s ||| 2 ^ i ||| 2 ^ k) (by omega) sO).1
    have c4 := (subC (s := s) (by omega) sI).1
    have p1 := popMod (s := T) (t := W) (by omega) (by omega)
    have p2 := popMod (s := s ||| 2 ^ i) (t := s ||| 2 ^ k) (by omega) (by omega)
    rw [hSU, hSI] at p2
    omega
  · unfold oneV
    rw [List.all_eq_true]
    intro e he
    rw [List.mem_range] at he
    have h2e : 2 ^ e < 2 ^ n.toNat := Nat.pow_lt_pow_right (by omega) he
    rw [Bool.not_eq_true', decide_eq_false_iff_not, mkL_get h2e]
    have g := (ur_spec h h2e).1 0 (Nat.zero_and _)
    rw [hp1.2.1, hp2.2.1, Nat.sub_zero] at g
    have := popAdd2 (s := 0) (b := e) (by omega) (by omega) (Nat.zero_testBit e)
    rw [Nat.zero_or, pop0] at this
    omega
theorem un_free {n n' : Int} {l l' : List Int} (h : areV n l n' l' = true) {x : Nat} (hx : x < 2 ^ n.toNat) : freeV (unL n l l') (x : Int) = true ↔ ∀ t, t &&& x = t → (popN x : Int) ≤ l.getD t 0 + l'.getD t 0 + (popN (x - t) : Int) := by
  unfold freeV unL
  rw [Int.toNat_natCast, mkL_get hx, decide_eq_true_eq]
  obtain ⟨a1, t, ht, e⟩ := ur_spec h hx
  constructor
  · intro he t ht; have := a1 t ht; omega
  · intro hA
    have h1 := hA t ht
    have h2 := a1 0 (Nat.zero_and x)
    obtain ⟨h3, h4, rfl⟩ := are_iff.1 h
    rw [(pol_iff.1 (mat_pol h3)).2.1, (pol_iff.1 (mat_pol h4)).2.1, Nat.sub_zero] at h2
    omega
theorem parts_of {n n' : Int} {l l' : List Int} (h : areV n l n' l' = true) {x : Nat} (hx : x < 2 ^ n.toNat) (hA : ∀ t, t &&& x = t → (popN x : Int) ≤ l.getD t 0 + l'.getD t 0 + (popN (x - t) : Int)) :
    ∃ a, a &&& x = a ∧ l.getD a 0 = (popN a : Int) ∧ l'.getD (x - a) 0 = (popN (x - a) : Int) := by
  obtain ⟨h1, h2, rfl⟩ := are_iff.1 h
  obtain ⟨hn, hlen, h32⟩ := mat_n5 h1
  obtain ⟨_, hlen', _⟩ := mat_n5 h2
  have hp1 := pol_iff.1 (mat_pol h1)
  have hp2 := pol_iff.1 (mat_pol h2)
  have hx64 : x < 64 := by omega
  have hm : ∀ s, s &&& x &&& x = s &&& x := fun s => by rw [Nat.and_assoc, Nat.and_self]
  have hml : ∀ s, s &&& x < 2 ^ n.toNat := fun s => Nat.lt_of_le_of_lt Nat.and_le_right hx
  have hsl : ∀ s, x - s < 2 ^ n.toNat := fun s => by omega
  have do_or : ∀ s t : Nat, (s ||| t) &&& x = (s &&& x) ||| (t &&& x) := fun s t => Nat.and_or_distrib_right ..
  have do_and : ∀ s t : Nat, (s &&& t) &&& x = (s &&& x) &&& (t &&& x) := fun s t => by
    apply Nat.eq_of_testBit_eq; intro j
    simp only [Nat.testBit_and]
    cases Nat.testBit s j <;> cases Nat.testBit t j <;> cases Nat.testBit x j <;> rfl
  have hF : PolF n.toNat (fun A => l.getD (A &&& x) 0) := by
    refine ⟨?_, fun s t _ _ => ?_, fun s t _ hst => ?_⟩
    · show l.getD (0 &&& x) 0 = 0
      rw [Nat.zero_and]; exact hp1.2.1
    · show l.getD ((s ||| t) &&& x) 0 + l.getD ((s &&& t) &&& x) 0 ≤ _
      rw [do_or, do_and]
      exact sub_pair hp1.2.2.2 (by have := hml s; omega) (by have := hml t; omega)
    · refine pol_mono (mat_pol h1) (by have := hml t; omega) ?_
      rw [← do_and, hst]
  have hG : PolF n.toNat (fun A => (popN (A &&& x) : Int) - l'.getD x 0 + l'.getD (x - (A &&& x)) 0) := by
    refine ⟨?_, fun s t _ _ => ?_, fun s t _ hst => ?_⟩
    · show (popN (0 &&& x) : Int) - l'.getD x 0 + l'.getD (x - (0 &&& x)) 0 = 0
      rw [Nat.zero_and, pop0, Nat.sub_zero]; omega
    · show (popN ((s ||| t) &&& x) : Int) - l'.getD x 0 + l'.getD (x - ((s ||| t) &&& x)) 0 + ((popN ((s &&& t) &&& x) : Int) - l'.getD x 0 + l'.getD (x - ((s &&& t) &&& x)) 0) ≤ ((popN (s &&& x) : Int) - l'.getD x 0 + l'.getD (x - (s &&& x)) 0) + ((popN (t &&& x) : Int) - l'.getD x 0 + l'.getD (x - (t &&& x)) 0)
      rw [do_or, do_and]
      have hu := hml s
      have hv := hml t
      have hux := hm s
      have hvx := hm t
      generalize s &&& x = u at hu hux ⊢
      generalize t &&& x = v at hv hvx ⊢
      have pm := popMod (s := u) (t := v) (by omega) (by omega)
      have sp := sub_pair hp2.2.2.2 (s := x - u) (t := x - v) (by have := hsl u; omega) (by have := hsl v; omega)
      have ox : (u ||| v) &&& x = u ||| v := by rw [Nat.and_or_distrib_right, hux, hvx]
      have ax : (u &&& v) &&& x = u &&& v := by rw [Nat.and_assoc, hvx]
      have e1 : (x - u) &&& (x - v) = x - (u ||| v) := by
        apply Nat.eq_of_testBit_eq; intro j
        rw [Nat.testBit_and, sub_bit hx64 hux, sub_bit hx64 hvx, sub_bit hx64 ox, Nat.testBit_or]
        cases Nat.testBit x j <;> cases Nat.testBit u j <;> cases Nat.testBit v j <;> rfl
      have e2 : (x - u) ||| (x - v) = x - (u &&& v) := by
        apply Nat.eq_of_testBit_eq; intro j
        rw [Nat.testBit_or, sub_bit hx64 hux, sub_bit hx64 hvx, sub_bit hx64 ax, Nat.testBit_and]
        cases Nat.testBit x j <;> cases Nat.testBit u j <;> cases Nat.testBit v j <;> rfl
      rw [e1, e2] at sp
      omega
    · show (popN (s &&& x) : Int) - l'.getD x 0 + l'.getD (x - (s &&& x)) 0 ≤ (popN (t &&& x) : Int) - l'.getD x 0 + l'.getD (x - (t &&& x)) 0
      have huv : (s &&& x) &&& (t &&& x) = s &&& x := by rw [← do_and, hst]
      have hu := hml s
      have hv := hml t
      have hux := hm s
      have hvx := hm t
      generalize s &&& x = u at hu hux huv ⊢
      generalize t &&& x = v at hv hvx huv ⊢
      obtain ⟨c1, c2, c3, c4⟩ := subC (s := v) (a := u) (by omega) huv
      have sp := sub_pair hp2.2.2.2 (s := x - v) (t := v - u) (by have := hsl v; omega) (by omega)
      have e1 : (x - v) &&& (v - u) = 0 := by
        apply Nat.eq_of_testBit_eq; intro j
        rw [Nat.testBit_and, sub_bit hx64 hvx, sub_bit (by omega) huv, Nat.zero_testBit]
        cases Nat.testBit x j <;> cases Nat.testBit u j <;> cases Nat.testBit v j <;> rfl
      have e2 : (x - v) ||| (v - u) = x - u := by
        apply Nat.eq_of_testBit_eq; intro j
        have w1 := sub_ext.1 huv j
        have w2 := sub_ext.1 hvx j
        rw [Nat.testBit_or, sub_bit hx64 hvx, sub_bit (by omega) huv, sub_bit hx64 hux]
        revert w1 w2
        cases Nat.testBit x j <;> cases Nat.testBit u j <;> cases Nat.testBit v j <;> simp
      rw [e1, e2, hp2.2.1] at sp
      have := mat_le h2 (v - u) (by omega)
      omega
  obtain ⟨y, _, hy0, hyf, hyg, hyk⟩ := pol_inter n.toNat _ _ ((popN x : Int) - l'.getD x 0) hF hG fun A hAl => by
    show _ ≤ l.getD (A &&& x) 0 + ((popN ((2 ^ n.toNat - 1 - A) &&& x) : Int) - l'.getD x 0 + l'.getD (x - ((2 ^ n.toNat - 1 - A) &&& x)) 0)
    have hu := hml A
    have hux := hm A
    have e1 : (2 ^ n.toNat - 1 - A) &&& x = x - (A &&& x) := by
      apply Nat.eq_of_testBit_eq; intro j
      rw [Nat.testBit_and, cplN hAl, sub_bit hx64 hux, Nat.testBit_and]
      by_cases hj : j < n.toNat
      · rw [decide_eq_true hj]; cases Nat.testBit x j <;> cases Nat.testBit A j <;> rfl
      · rw [bit_hi hx (by omega)]; simp
    rw [e1]
    have hq := hA (A &&& x) hux
    generalize A &&& x = u at hu hux hq ⊢
    have hule : u ≤ x := by rw [← hux]; exact Nat.and_le_right
    have e2 : x - (x - u) = u := by omega
    rw [e2]
    omega
  obtain ⟨a, ha, hw, hi, hb⟩ := mat_bits h1 hy0 fun s hs => by
    have q1 := hyf s hs
    have q2 := pol_mono (mat_pol h1) (s := s &&& x) (t := s) (by omega) (by rw [Nat.and_comm s x, Nat.and_assoc, Nat.and_self])
    exact Int.le_trans q1 q2
  have hax : a &&& x = a := by
    rw [sub_ext]; intro j hj
    have hjn : j < n.toNat := Nat.lt_of_not_le fun hle => by rw [bit_hi ha hle] at hj; cases hj
    cases hxj : Nat.testBit x j with
    | true => rfl
    | false =>
      have q1 := hyf (2 ^ j) (Nat.pow_lt_pow_right (by omega) hjn)
      rw [wV_single hjn] at q1
      have e1 : 2 ^ j &&& x = 0 := by
        apply Nat.eq_of_testBit_eq; intro i
        rw [Nat.testBit_and, Nat.testBit_two_pow, Nat.zero_testBit]
        by_cases e : j = i
        · subst e; rw [hxj, Bool.and_false]
        · rw [decide_eq_false e]; rfl
      have q2 : y.getD j 0 ≤ l.getD (2 ^ j &&& x) 0 := q1
      rw [e1, hp1.2.1] at q2
      have := (hb j hjn).1 hj
      omega
  refine ⟨a, hax, hi, ?_⟩
  have g1 := hyg a ha
  rw [hw a (by omega), Nat.and_self] at g1
  have g1' : (popN a : Int) ≤ (popN (a &&& x) : Int) - l'.getD x 0 + l'.getD (x - (a &&& x)) 0 := g1
  rw [hax] at g1'
  rw [hw (2 ^ n.toNat - 1) (by omega), and_full ha] at hyk
  have c1 := (subC hx64 hax).1
  have := mat_le h2 (x - a) (by have := hsl a; omega)
  omega
theorem parts_to {n n' : Int} {l l' : List Int} (h : areV n l n' l' = true) {x a : Nat} (hx : x < 2 ^ n.toNat) (hax : a &&& x = a) (i1 : l.getD a 0 = (popN a : Int)) (i2 : l'.getD (x - a) 0 = (popN (x - a) : Int)) :
    ∀ t, t &&& x = t → (popN x : Int) ≤ l.getD t 0 + l'.getD t 0 + (popN (x - t) : Int) := by
  obtain ⟨h1, h2, rfl⟩ := are_iff.1 h
  obtain ⟨hn, hlen, h32⟩ := mat_n5 h1
  obtain ⟨_, hlen', _⟩ := mat_n5 h2
  intro t ht
  have hx64 : x < 64 := by omega
  have ht2 : t < 2 ^ n.toNat := by rw [← ht]; exact Nat.lt_of_le_of_lt Nat.and_le_right hx
  have ha2 : a < 2 ^ n.toNat := by rw [← hax]; exact Nat.lt_of_le_of_lt Nat.and_le_right hx
  have hxa : x - a < 2 ^ n.toNat := by omega
  have u1 := ind_sub h1 (a := t &&& a) ha2 (by rw [Nat.and_assoc, Nat.and_self]) i1
  have u2 := ind_sub h2 (a := t &&& (x - a)) hxa (by rw [Nat.and_assoc, Nat.and_self]) i2
  have v1 := pol_mono (mat_pol h1) (s := t &&& a) (t := t) (by omega) (by rw [Nat.and_comm t a, Nat.and_assoc, Nat.and_self])
  have v2 := pol_mono (mat_pol h2) (s := t &&& (x - a)) (t := t) (by omega) (by rw [Nat.and_comm t _, Nat.and_assoc, Nat.and_self])
  have pm := popMod (s := t &&& a) (t := t &&& (x - a)) (Nat.lt_of_le_of_lt Nat.and_le_left (by omega)) (Nat.lt_of_le_of_lt Nat.and_le_left (by omega))
  have e1 : (t &&& a) ||| (t &&& (x - a)) = t := by
    apply Nat.eq_of_testBit_eq; intro j
    have w := sub_ext.1 ht j
    rw [Nat.testBit_or, Nat.testBit_and, Nat.testBit_and, sub_bit hx64 hax]
    revert w; cases Nat.testBit t j <;> cases Nat.testBit a j <;> cases Nat.testBit x j <;> simp
  have e2 : (t &&& a) &&& (t &&& (x - a)) = 0 := by
    apply Nat.eq_of_testBit_eq; intro j
    rw [Nat.testBit_and, Nat.testBit_and, Nat.testBit_and, sub_bit hx64 hax, Nat.zero_testBit]
    cases Nat.testBit t j <;> cases Nat.testBit a j <;> cases Nat.testBit x j <;> rfl
  rw [e1, e2, pop0] at pm
  have c1 := (subC hx64 ht).1
  omega
theorem pt_free {n n' : Int} {l l' : List Int} (h : areV n l n' l' = true) {x : Nat} (hx : x < 2 ^ n.toNat) : (ptV l l' x).isSome = freeV (unL n l l') (x : Int) := by
  obtain ⟨h1, h2, e0⟩ := are_iff.1 h
  obtain ⟨hn, hlen, h32⟩ := mat_n5 h1
  rw [Bool.eq_iff_iff, un_free h hx]
  constructor
  · intro hs
    obtain ⟨a, ha⟩ := Option.isSome_iff_exists.1 hs
    obtain ⟨q1, q2, q3⟩ := seek_lt ha
    unfold ptP at q3
    rw [Bool.and_eq_true, Bool.and_eq_true, decide_eq_true_eq] at q3
    obtain ⟨r1, r2, r3⟩ := q3
    rw [iand_nat (by omega) (by omega)] at r1
    unfold freeV at r2 r3
    rw [decide_eq_true_eq, Int.toNat_natCast] at r2
    rw [decide_eq_true_eq, show ((x : Int) - (a : Int)).toNat = x - a by omega] at r3
    exact parts_to h hx (by omega) r2 r3
  · intro hA
    obtain ⟨a, ha, i1, i2⟩ := parts_of h hx hA
    have hax : a ≤ x := by rw [← ha]; exact Nat.and_le_right
    cases hp : ptV l l' x with
    | some t => rfl
    | none =>
      have := seek_none.1 hp a (Nat.zero_le _) (by omega)
      unfold ptP freeV at this
      rw [iand_nat (by omega) (by omega), ha, decide_eq_true rfl, Int.toNat_natCast, decide_eq_true i1, show ((x : Int) - (a : Int)).toNat = x - a by omega, decide_eq_true i2] at this
      cases this
/-- The largest set that can be parted has as many elements as the rank of the union. -/
theorem lu_size {n n' : Int} {l l' : List Int} (h : areV n l n' l' = true) : (popN (lgV (luP l l') (2 ^ n.toNat)) : Int) = (unL n l l').getD (2 ^ n.toNat - 1) 0 ∧ lgV (luP l l') (2 ^ n.toNat) < 2 ^ n.toNat := by
  have hm := un_mat h
  obtain ⟨hn, hlen, h32⟩ := mat_n5 hm
  have hp := pol_iff.1 (mat_pol hm)
  have hpos := Nat.two_pow_pos n.toNat
  have e : lgV (luP l l') (2 ^ n.toNat) = lgV (freeV (unL n l l')) (2 ^ n.toNat) := lgV_congr fun k hk => by
    unfold luP; rw [Int.toNat_natCast]; exact pt_free h hk
  rw [e]
  have h0 : freeV (unL n l l') 0 = true := by
    unfold freeV; rw [decide_eq_true_eq]; show (unL n l l').getD 0 0 = (popN 0 : Int); rw [hp.2.1, pop0]; rfl
  obtain ⟨g1, g2, g3⟩ := lgV_spec h0 (2 ^ n.toNat) hpos
  obtain ⟨a, ha, i1, i2⟩ := max_ind hm (2 ^ n.toNat - 1) (by omega)
  have ha2 : a < 2 ^ n.toNat := by rw [← ha]; exact Nat.lt_of_le_of_lt Nat.and_le_right (by omega)
  have g4 := g3 a ha2 (by unfold freeV; rw [decide_eq_true_eq, Int.toNat_natCast]; exact i1)
  clear g3 e
  generalize lgV (freeV (unL n l l')) (2 ^ n.toNat) = T at *
  unfold freeV at g2
  rw [decide_eq_true_eq, Int.toNat_natCast] at g2
  have m1 := pol_mono (mat_pol hm) (s := T) (t := 2 ^ n.toNat - 1) (by omega) (by rw [Nat.and_comm]; exact and_full g1)
  exact ⟨by omega, g1⟩

theorem pop_full {n : Nat} (h : n ≤ 6) {t : Nat} (ht : t < 2 ^ n) : popN (2 ^ n - 1 - t) + popN t = n := by
  have h64 : 2 ^ n ≤ 64 := Nat.le_trans (Nat.pow_le_pow_right (by omega) h) (by decide)
  have h1 := (subC (s := 2 ^ n - 1) (a := t) (by omega) (by rw [Nat.and_comm]; exact and_full ht)).1
  have h2 := popComp (n := n) (s := 0) (by omega) (by omega)
  have e : nandn (2 ^ n - 1) 0 = 2 ^ n - 1 := by rw [nfull (by omega) (by omega)]; omega
  rw [e, pop0] at h2
  omega
theorem pkV_spec {n : Int} {l : List Int} {b : Int} : ∀ k, (∀ s, s < k → 0 < l.getD (cbF n) 0 - l.getD s 0 → pkV n l b k ≤ pkF n l s) ∧ (pkV n l b k = b ∨ ∃ s, s < k ∧ 0 < l.getD (cbF n) 0 - l.getD s 0 ∧ pkV n l b k = pkF n l s)
  | 0 => ⟨fun s hs => by omega, .inl rfl⟩
  | k + 1 => by
    obtain ⟨h1, h2⟩ := pkV_spec (n := n) (l := l) (b := b) k
    by_cases hc : 0 < l.getD (cbF n) 0 - l.getD k 0
    · rw [pkV_1 hc]
      by_cases hlt : pkF n l k < pkV n l b k
      · rw [if_pos hlt]
        refine ⟨fun s hs hp => ?_, .inr ⟨k, by omega, hc, rfl⟩⟩
        by_cases e : s = k
        · subst e; exact Int.le_refl _
        · have := h1 s (by omega) hp; omega
      · rw [if_neg hlt]
        refine ⟨fun s hs hp => ?_, ?_⟩
        · by_cases e : s = k
          · subst e; omega
          · exact h1 s (by omega) hp
        · rcases h2 with h2 | ⟨s, a1, a2, a3⟩
          · exact .inl h2
          · exact .inr ⟨s, by omega, a2, a3⟩
    · rw [pkV_0 hc]
      refine ⟨fun s hs hp => ?_, ?_⟩
      · by_cases e : s = k
        · subst e; exact absurd hp hc
        · exact h1 s (by omega) hp
      · rcases h2 with h2 | ⟨s, a1, a2, a3⟩
        · exact .inl h2
        · exact .inr ⟨s, by omega, a2, a3⟩
theorem are_self {n : Int} {l : List Int} (h : matV n l = true) : areV n l n l = true := are_iff.2 ⟨h, h, rfl⟩
theorem pk_iff {n : Int} {l : List Int} (h : matV n l = true) : (2 ≤ pkV n l 100 l.length) ↔ (unL n l l).getD (cbF n) 0 = 2 * l.getD (cbF n) 0 := by
  obtain ⟨hn, hlen, h32⟩ := mat_n5 h
  have hc := cbF_lt n
  have hm := are_self h
  have e : (unL n l l).getD (cbF n) 0 = urF l l (cbF n : Int) := by unfold unL; rw [mkL_get (by omega)]
  rw [e]
  obtain ⟨u1, t, ht, ut⟩ := ur_spec hm (s := cbF n) (by omega)
  have hcb : cbF n = 2 ^ n.toNat - 1 := rfl
  have hpop : ∀ s, s < 2 ^ n.toNat → (popN (cbF n - s) : Int) = n - popN s := fun s hs => by
    have := pop_full (n := n.toNat) (by omega) hs
    rw [hcb]; omega
  have hmono : ∀ s, s < 2 ^ n.toNat → l.getD s 0 ≤ l.getD (cbF n) 0 := fun s hs => pol_mono (mat_pol h) (by omega) (by rw [hcb, Nat.and_comm]; exact and_full hs)
  have hdiv : ∀ s, s < 2 ^ n.toNat → 0 < l.getD (cbF n) 0 - l.getD s 0 → (2 ≤ pkF n l s ↔ 2 * (l.getD (cbF n) 0 - l.getD s 0) ≤ n - popN s) := fun s hs hp => by
    have hq := hpop s hs
    have h0 : 0 ≤ n - (popN s : Int) := by omega
    have d1 := Int.ediv_nonneg h0 (Int.le_of_lt hp)
    have d2 := Int.ediv_le_self (l.getD (cbF n) 0 - l.getD s 0) h0
    unfold pkF
    rw [Int.tdiv_eq_ediv_of_nonneg h0, wrap64_id (by omega) (by omega)]
    exact Int.le_ediv_iff_mul_le hp
  obtain ⟨p1, p2⟩ := pkV_spec (n := n) (l := l) (b := 100) l.length
  have g0 := u1 (cbF n) (Nat.and_self _)
  rw [Nat.sub_self, pop0] at g0
  have ht2 : t < 2 ^ n.toNat := by rw [← ht]; exact Nat.lt_of_le_of_lt Nat.and_le_right (by omega)
  constructor
  · intro h2
    have hp := hpop t ht2
    have hm2 := hmono t ht2
    by_cases hc : 0 < l.getD (cbF n) 0 - l.getD t 0
    · have := (hdiv t ht2 hc).1 (by have := p1 t (by omega) hc; omega)
      omega
    · omega
  · intro he
    rcases p2 with p2 | ⟨s, s1, s2, s3⟩
    · omega
    · rw [s3, hdiv s (by omega) s2]
      have := u1 s (by rw [hcb, Nat.and_comm]; exact and_full (by omega))
      have hp := hpop s (by omega)
      omega
theorem cvM_spec {l : List Int} : ∀ k, 1 ≤ k → (∀ s, 1 ≤ s → s < k → cvF l s ≤ cvM l k) ∧ (cvM l k = 0 ∨ ∃ s, 1 ≤ s ∧ s < k ∧ cvM l k = cvF l s)
  | 0, h => by omega
  | 1, _ => ⟨fun s h1 h2 => by omega, .inl (cvM_1 l)⟩
  | k + 2, _ => by
    obtain ⟨h1, h2⟩ := cvM_spec (l := l) (k + 1) (by omega)
    rw [cvM_succ (by omega)]
    by_cases hlt : cvM l (k + 1) < cvF l (k + 1)
    · rw [if_pos hlt]
      refine ⟨fun s hs hs2 => ?_, .inr ⟨k + 1, by omega, by omega, rfl⟩⟩
      by_cases e : s = k + 1
      · subst e; exact Int.le_refl _
      · have := h1 s hs (by omega); omega
    · rw [if_neg hlt]
      refine ⟨fun s hs hs2 => ?_, ?_⟩
      · by_cases e : s = k + 1
        · subst e; omega
        · exact h1 s hs (by omega)
      · rcases h2 with h2 | ⟨s, a1, a2, a3⟩
        · exact .inl h2
        · exact .inr ⟨s, a1, by omega, a3⟩
theorem cv_iff {n : Int} {l : List Int} (h : okC n l = true) : (cvM l l.length ≤ 2) ↔ (unL n l l).getD (cbF n) 0 = n := by
  unfold okC at h
  rw [Bool.and_eq_true] at h
  obtain ⟨h, hb⟩ := h
  obtain ⟨hn, hlen, h32⟩ := mat_n5 h
  have hc := cbF_lt n
  have hpos := Nat.two_pow_pos n.toNat
  have hm := are_self h
  have hp := pol_iff.1 (mat_pol h)
  have e : (unL n l l).getD (cbF n) 0 = urF l l (cbF n : Int) := by unfold unL; rw [mkL_get (by omega)]
  rw [e]
  obtain ⟨u1, t, ht, ut⟩ := ur_spec hm (s := cbF n) (by omega)
  have hcb : cbF n = 2 ^ n.toNat - 1 := rfl
  have hpop : ∀ s, s < 2 ^ n.toNat → (popN (cbF n - s) : Int) = n - popN s := fun s hs => by
    have := pop_full (n := n.toNat) (by omega) hs
    rw [hcb]; omega
  have hl0 : ∀ s, 1 ≤ s → s < 2 ^ n.toNat → 1 ≤ l.getD s 0 := fun s h1 hs => by
    have := List.all_eq_true.1 hb s (List.mem_range.2 (by omega))
    rw [decide_eq_false (by omega), Bool.false_or, Bool.not_eq_true', decide_eq_false_iff_not] at this
    have := pol_nn (mat_pol h) s (by omega)
    omega
  have hdiv : ∀ s, 1 ≤ s → s < 2 ^ n.toNat → (cvF l s ≤ 2 ↔ (popN s : Int) ≤ 2 * l.getD s 0) := fun s h1 hs => by
    have hq := hl0 s h1 hs
    have hb1 := getD_bd (fnV_iff.1 hp.1).2.2 s
    have hb2 := popN_le s
    have h0 : 0 ≤ (popN s : Int) + l.getD s 0 - 1 := by omega
    have d1 := Int.ediv_nonneg h0 (by omega : 0 ≤ l.getD s 0)
    have d2 := Int.ediv_le_self (l.getD s 0) h0
    unfold cvF
    rw [Int.tdiv_eq_ediv_of_nonneg h0, wrap64_id (by omega) (by omega)]
    have k1 : ((popN s : Int) + l.getD s 0 - 1) / l.getD s 0 < 3 ↔ (popN s : Int) + l.getD s 0 - 1 < 3 * l.getD s 0 := Int.ediv_lt_iff_lt_mul (by omega)
    omega
  obtain ⟨p1, p2⟩ := cvM_spec (l := l) l.length (by omega)
  have g0 := u1 0 (Nat.zero_and _)
  rw [hp.2.1, hpop 0 hpos, pop0] at g0
  have ht2 : t < 2 ^ n.toNat := by rw [← ht]; exact Nat.lt_of_le_of_lt Nat.and_le_right (by omega)
  constructor
  · intro h2
    have hpt := hpop t ht2
    by_cases e0 : t = 0
    · subst e0; rw [hp.2.1, hpop 0 hpos, pop0] at ut; omega
    · have := (hdiv t (by omega) ht2).1 (by have := p1 t (by omega) (by omega); omega)
      omega
  · intro he
    rcases p2 with p2 | ⟨s, s0, s1, s3⟩
    · omega
    · rw [s3, hdiv s s0 (by omega)]
      have := u1 s (by rw [hcb, Nat.and_comm]; exact and_full (by omega))
      have hps := hpop s (by omega)
      omega
end Go.Proofs.Ytjlpjkiadohkiaa
