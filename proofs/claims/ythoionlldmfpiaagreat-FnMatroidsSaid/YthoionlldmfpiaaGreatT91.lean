import Derived.Test.YthoionlldmfpiaaGreatT90
import Derived.Test.YthoionlldmfpiaaGreatHs
import Derived.Test.YthoionlldmfpiaaGreatT50
set_option linter.unusedSimpArgs false
set_option linter.unusedVariables false
set_option maxHeartbeats 2000000
namespace Go.Proofs.YthoionlldmfpiaaGreat
open Go Go.Ab
attribute [local irreducible] aol
attribute [local irreducible] popN
def dsc (x : List Int) (a b : Int) : Prop := x.getD b.toNat 0 ≤ x.getD a.toNat 0
theorem posD_spec {x P : List Int} {v : Int} : ∀ k, k ≤ P.length → (∀ j, posD x P v k ≤ j → j < k → x.getD (P.getD j 0).toNat 0 < v) ∧ (posD x P v k ≠ 0 → v ≤ x.getD (P.getD (posD x P v k - 1) 0).toNat 0)
  | 0, _ => ⟨fun j _ h => by omega, fun h => absurd rfl h⟩
  | k + 1, hk => by
    obtain ⟨h1, h2⟩ := posD_spec (x := x) (P := P) (v := v) k (by omega)
    by_cases hc : x.getD (P.getD k 0).toNat 0 < v
    · rw [posD_lt hc]
      refine ⟨fun j hj hjk => ?_, h2⟩
      by_cases e : j = k
      · rw [e]; exact hc
      · exact h1 j hj (by omega)
    · rw [posD_ge hc]
      refine ⟨fun j hj hjk => by omega, fun _ => ?_⟩
      rw [Nat.add_sub_cancel]; omega
theorem pw_at {x P : List Int} (h : P.Pairwise (dsc x)) {a b : Nat} (hab : a < b) (hb : b < P.length) : x.getD (P.getD b 0).toNat 0 ≤ x.getD (P.getD a 0).toNat 0 := by
  have := List.pairwise_iff_getElem.1 h a b (by omega) hb hab
  rw [List.getD_eq_getElem?_getD (l := P), List.getD_eq_getElem?_getD (l := P), List.getElem?_eq_getElem hb, List.getElem?_eq_getElem (by omega)]
  exact this
theorem insD_pw {x P : List Int} {i : Nat} (h : P.Pairwise (dsc x)) : (insD x P i).Pairwise (dsc x) := by
  obtain ⟨h1, h2⟩ := posD_spec (x := x) (P := P) (v := x.getD i 0) P.length (Nat.le_refl _)
  have hp := posD_le x P (x.getD i 0) P.length
  unfold insD
  generalize posD x P (x.getD i 0) P.length = p at h1 h2 hp
  have hP : (P.take p ++ P.drop p).Pairwise (dsc x) := by rw [List.take_append_drop]; exact h
  rw [List.pairwise_append] at hP
  have ht : ∀ a, a ∈ P.take p → dsc x a (i : Int) := fun a ha => by
    obtain ⟨j, hj, rfl⟩ := List.getElem_of_mem ha
    rw [List.length_take] at hj
    unfold dsc
    rw [Int.toNat_natCast, List.getElem_take]
    have e : P[j]'(by omega) = P.getD j 0 := by rw [List.getD_eq_getElem?_getD, List.getElem?_eq_getElem (by omega)]; rfl
    rw [e]
    have := h2 (by omega)
    by_cases ej : j = p - 1
    · rw [ej]; exact this
    · have := pw_at h (a := j) (b := p - 1) (by omega) (by omega)
      omega
  have hd : ∀ b, b ∈ P.drop p → dsc x (i : Int) b := fun b hb => by
    obtain ⟨j, hj, rfl⟩ := List.getElem_of_mem hb
    rw [List.length_drop] at hj
    unfold dsc
    rw [Int.toNat_natCast, List.getElem_drop]
    have e : P[p + j]'(by omega) = P.getD (p + j) 0 := by rw [List.getD_eq_getElem?_getD, List.getElem?_eq_getElem (by omega)]; rfl
    rw [e]
    have := h1 (p + j) (by omega) (by omega)
    omega
  rw [List.pairwise_append, List.pairwise_append]
  refine ⟨⟨hP.1, List.pairwise_singleton .., fun a ha b hb => ?_⟩, hP.2.1, fun a ha b hb => ?_⟩
  · rw [List.mem_singleton.1 hb]; exact ht a ha
  · rcases List.mem_append.1 ha with ha | ha
    · exact hP.2.2 a ha b hb
    · rw [List.mem_singleton.1 ha]; exact hd b hb
theorem ordV_pw (x : List Int) : ∀ i, (ordV x i).Pairwise (dsc x)
  | 0 => List.Pairwise.nil
  | i + 1 => insD_pw (ordV_pw x i)
def pfS (o : List Int) : Nat → Nat
  | 0 => 0
  | k + 1 => pfS o k ||| 2 ^ (o.getD k 0).toNat
theorem pfS_bit {o : List Int} {e : Nat} : ∀ {k : Nat}, Nat.testBit (pfS o k) e = true ↔ ∃ j, j < k ∧ (o.getD j 0).toNat = e
  | 0 => by simp [pfS]
  | k + 1 => by
    unfold pfS
    rw [bit_or, Bool.or_eq_true, decide_eq_true_eq, pfS_bit (k := k)]
    constructor
    · rintro (⟨j, hj, e'⟩ | h)
      · exact ⟨j, by omega, e'⟩
      · exact ⟨k, by omega, h⟩
    · rintro ⟨j, hj, e'⟩
      by_cases ej : j = k
      · right; rw [← ej]; exact e'
      · exact .inl ⟨j, by omega, e'⟩
theorem pfS_lt {o : List Int} {n : Nat} (h : ∀ k, k < o.length → (o.getD k 0).toNat < n) : ∀ {k : Nat}, k ≤ o.length → pfS o k < 2 ^ n
  | 0, _ => Nat.two_pow_pos n
  | k + 1, hk => or_lt (pfS_lt h (by omega)) (h k (by omega))
theorem hb_best {n : Int} {v w : List Int} (hok : hbOk n v w = true) : (hbS v w < 2 ^ n.toNat ∧ v.getD (hbS v w) 0 = (popN (hbS v w) : Int) ∧ v.getD (hbS v w) 0 = v.getD (cbF n) 0) ∧
    ∀ X, X < 2 ^ n.toNat → v.getD X 0 = (popN X : Int) → v.getD X 0 = v.getD (cbF n) 0 → wV w X w.length ≤ hbN v w := by
  unfold hbOk at hok
  rw [Bool.and_eq_true, Bool.and_eq_true, decide_eq_true_eq] at hok
  obtain ⟨hm, hw, hwn⟩ := hok
  obtain ⟨hn, hlen, h32⟩ := mat_n5 hm
  have hp := pol_iff.1 (mat_pol hm)
  have hcb : cbF n = 2 ^ n.toNat - 1 := rfl
  have hN : n.toNat = w.length := by omega
  obtain ⟨o, ho⟩ : ∃ o, ordV w w.length = o := ⟨_, rfl⟩
  have hol : o.length = w.length := by rw [← ho]; exact ordV_len w _
  have hoa : ∀ k, k < o.length → 0 ≤ o.getD k 0 ∧ (o.getD k 0).toNat < n.toNat := fun k hk => by
    have := ordV_at (x := w) (i := w.length) (k := k) (by omega)
    rw [ho] at this; omega
  have hod : o.Nodup := by rw [← ho]; exact ordV_nodup w _
  have hpw : o.Pairwise (dsc w) := by rw [← ho]; exact ordV_pw w _
  have hnew : ∀ k, k < o.length → Nat.testBit (pfS o k) (o.getD k 0).toNat = false := fun k hk => by
    cases hb : Nat.testBit (pfS o k) (o.getD k 0).toNat with
    | false => rfl
    | true =>
      obtain ⟨j, hj, e⟩ := pfS_bit.1 hb
      have h1 := hoa j (by omega)
      have h2 := hoa k hk
      have e2 : o.getD j 0 = o.getD k 0 := by omega
      rw [List.getD_eq_getElem?_getD, List.getD_eq_getElem?_getD, List.getElem?_eq_getElem (by omega : j < o.length), List.getElem?_eq_getElem hk] at e2
      have := (List.nodup_iff_pairwise_ne.1 hod)
      have := List.pairwise_iff_getElem.1 this j k (by omega) hk hj
      exact absurd e2 this
  have hpl : ∀ k, k ≤ o.length → pfS o k < 2 ^ n.toNat := fun k hk => pfS_lt (fun k hk => (hoa k hk).2) hk
  have hgl : ∀ k, k ≤ o.length → grS v o k < 2 ^ n.toNat := fun k hk => grS_lt (fun k hk => (hoa k hk).2) hk
  have inv : ∀ k, k ≤ o.length → grS v o k &&& pfS o k = grS v o k ∧ v.getD (grS v o k) 0 = (popN (grS v o k) : Int) ∧ v.getD (pfS o k) 0 = v.getD (grS v o k) 0 := by
    intro k
    induction k with
    | zero => intro _; exact ⟨Nat.zero_and _, by show v.getD 0 0 = (popN 0 : Int); rw [hp.2.1, pop0]; rfl, rfl⟩
    | succ k ih =>
      intro hk
      obtain ⟨i1, i2, i3⟩ := ih (by omega)
      have he := (hoa k (by omega)).2
      have hnk := hnew k (by omega)
      have hpk := hpl k (by omega)
      have hgk := hgl k (by omega)
      generalize hee : (o.getD k 0).toNat = e at he hnk
      have hge : Nat.testBit (grS v o k) e = false := by
        cases hb : Nat.testBit (grS v o k) e with
        | false => rfl
        | true => rw [sub_ext.1 i1 e hb] at hnk; cases hnk
      have hpe : pfS o (k + 1) = pfS o k ||| 2 ^ e := by show pfS o k ||| 2 ^ (o.getD k 0).toNat = _; rw [hee]
      have g1 := gain_le (mat_pol hm) he (grS v o k) (by omega) hge
      have g2 := one_at hm he
      have g3 := gain_le (mat_pol hm) he (pfS o k) (by omega) hnk
      have hpop := popAdd2 (s := grS v o k) (b := e) (by omega) (by omega) hge
      have hGe := or_lt hgk he
      have hPe := or_lt hpk he
      have hsubG : (grS v o k ||| 2 ^ e) &&& (pfS o k ||| 2 ^ e) = grS v o k ||| 2 ^ e := by
        rw [sub_ext]; intro j hj
        rw [bit_or, Bool.or_eq_true] at hj
        rw [bit_or]
        rcases hj with hj | hj
        · rw [sub_ext.1 i1 j hj]; rfl
        · rw [hj, Bool.or_true]
      have m1 := pol_mono (mat_pol hm) (s := grS v o k ||| 2 ^ e) (t := pfS o k ||| 2 ^ e) (by omega) hsubG
      by_cases hc : v.getD (grS v o k) 0 < v.getD (grS v o k ||| 2 ^ e) 0
      · have eG : grS v o (k + 1) = grS v o k ||| 2 ^ e := by have := grS_yes (l := v) (o := o) (k := k) (by rw [hee]; exact hc); rw [hee] at this; exact this
        rw [eG, hpe]
        exact ⟨hsubG, by omega, by omega⟩
      · have eG : grS v o (k + 1) = grS v o k := grS_no (by rw [hee]; exact hc)
        rw [eG, hpe]
        have sp := sub_pair hp.2.2.2 (s := pfS o k) (t := grS v o k ||| 2 ^ e) (by omega) (by omega)
        have e1 : pfS o k ||| (grS v o k ||| 2 ^ e) = pfS o k ||| 2 ^ e := by
          apply Nat.eq_of_testBit_eq; intro j
          have := sub_ext.1 i1 j
          rw [Nat.testBit_or, bit_or, bit_or]
          revert this; cases Nat.testBit (pfS o k) j <;> cases Nat.testBit (grS v o k) j <;> cases decide (e = j) <;> simp
        have m2 := pol_mono (mat_pol hm) (s := grS v o k) (t := pfS o k &&& (grS v o k ||| 2 ^ e)) (by have := Nat.and_le_left (n := pfS o k) (m := grS v o k ||| 2 ^ e); omega) (by
          rw [sub_ext]; intro j hj
          rw [Nat.testBit_and, bit_or, sub_ext.1 i1 j hj, hj]; rfl)
        have m3 := pol_mono (mat_pol hm) (s := pfS o k) (t := pfS o k ||| 2 ^ e) (by omega) (by rw [sub_ext]; intro j hj; rw [bit_or, hj]; rfl)
        rw [e1] at sp
        refine ⟨?_, i2, by omega⟩
        rw [sub_ext]; intro j hj
        rw [bit_or, sub_ext.1 i1 j hj]; rfl
  have hfull : pfS o o.length = 2 ^ n.toNat - 1 := by
    apply Nat.eq_of_testBit_eq; intro j
    have h0 := cplN (n := n.toNat) (s := 0) (Nat.two_pow_pos _) j
    rw [Nat.sub_zero] at h0
    rw [h0, Nat.zero_testBit, Bool.not_false, Bool.and_true]
    by_cases hj : j < n.toNat
    · rw [decide_eq_true hj, pfS_bit]
      have hmem : (j : Int) ∈ o := by rw [← ho]; exact ordV_mem.2 ⟨by omega, by omega⟩
      obtain ⟨i, hi, e⟩ := List.getElem_of_mem hmem
      refine ⟨i, hi, ?_⟩
      rw [List.getD_eq_getElem?_getD, List.getElem?_eq_getElem hi]
      show o[i].toNat = j
      rw [e, Int.toNat_natCast]
    · rw [decide_eq_false hj, bit_hi (hpl _ (Nat.le_refl _)) (by omega)]
  have eS : hbS v w = grS v o o.length := by unfold hbS; rw [ho, hol]
  obtain ⟨f1, f2, f3⟩ := inv o.length (Nat.le_refl _)
  rw [hfull] at f3
  refine ⟨⟨by rw [eS]; exact hgl _ (Nat.le_refl _), by rw [eS]; exact f2, by rw [eS, hcb]; exact f3.symm⟩, fun X hX x1 x2 => ?_⟩
  have key : ∀ k, k ≤ o.length → popN (X &&& pfS o k) ≤ popN (grS v o k) ∧ ∀ q : Int, (∀ j, j < k → q ≤ w.getD (o.getD j 0).toNat 0) → wV w (X &&& pfS o k) w.length + ((popN (grS v o k) : Int) - (popN (X &&& pfS o k) : Int)) * q ≤ wV w (grS v o k) w.length := by
    intro k
    induction k with
    | zero =>
      intro _
      have e0 : X &&& pfS o 0 = 0 := Nat.and_zero X
      have e1 : grS v o 0 = 0 := rfl
      rw [e0, e1, pop0]
      exact ⟨Nat.le_refl _, fun q _ => by rw [Int.sub_self, Int.zero_mul]; omega⟩
    | succ k ih =>
      intro hk
      obtain ⟨j1, j2⟩ := ih (by omega)
      obtain ⟨i1, i2, i3⟩ := inv k (by omega)
      obtain ⟨k1, k2, k3⟩ := inv (k + 1) hk
      have he := (hoa k (by omega)).2
      have hnk := hnew k (by omega)
      have hpk := hpl (k + 1) hk
      have hwe : ∀ j, j < k → w.getD (o.getD k 0).toNat 0 ≤ w.getD (o.getD j 0).toNat 0 := fun j hj => pw_at hpw hj (by omega)
      generalize hee : (o.getD k 0).toNat = e at he hnk hwe
      have hpe : pfS o (k + 1) = pfS o k ||| 2 ^ e := by show pfS o k ||| 2 ^ (o.getD k 0).toNat = _; rw [hee]
      have hge : Nat.testBit (grS v o k) e = false := by
        cases hb : Nat.testBit (grS v o k) e with
        | false => rfl
        | true => rw [sub_ext.1 i1 e hb] at hnk; cases hnk
      have hXs : popN (X &&& pfS o (k + 1)) ≤ popN (grS v o (k + 1)) := by
        have a1 := ind_sub hm hX (a := X &&& pfS o (k + 1)) (by rw [Nat.and_comm X, Nat.and_assoc, Nat.and_self]) x1
        have a2 := pol_mono (mat_pol hm) (s := X &&& pfS o (k + 1)) (t := pfS o (k + 1)) (by omega) (by rw [Nat.and_assoc, Nat.and_self])
        omega
      refine ⟨hXs, fun q hq => ?_⟩
      have hqe : q ≤ w.getD e 0 := by have := hq k (by omega); rw [hee] at this; exact this
      have hj2 := j2 (w.getD e 0) hwe
      have hstepX : ∃ dx : Int, (dx = 0 ∨ dx = 1) ∧ (popN (X &&& pfS o (k + 1)) : Int) = (popN (X &&& pfS o k) : Int) + dx ∧ wV w (X &&& pfS o (k + 1)) w.length = wV w (X &&& pfS o k) w.length + dx * w.getD e 0 := by
        rw [hpe]
        have hxe : Nat.testBit (X &&& pfS o k) e = false := by rw [Nat.testBit_and, hnk, Bool.and_false]
        cases hb : Nat.testBit X e with
        | true =>
          have e1 : X &&& (pfS o k ||| 2 ^ e) = (X &&& pfS o k) ||| 2 ^ e := by rw [Nat.and_comm X, cap_or hb, Nat.and_comm]
          refine ⟨1, .inr rfl, ?_, ?_⟩
          · rw [e1, popAdd2 (Nat.lt_of_le_of_lt Nat.and_le_left (by omega)) (by omega) hxe]; omega
          · rw [e1, wV_or hxe, if_pos (by omega), Int.one_mul]
        | false =>
          have e1 : X &&& (pfS o k ||| 2 ^ e) = X &&& pfS o k := by rw [Nat.and_comm X, cap_no hb, Nat.and_comm]
          exact ⟨0, .inl rfl, by rw [e1]; omega, by rw [e1]; omega⟩
      have hstepG : ∃ dg : Int, (dg = 0 ∨ dg = 1) ∧ (popN (grS v o (k + 1)) : Int) = (popN (grS v o k) : Int) + dg ∧ wV w (grS v o (k + 1)) w.length = wV w (grS v o k) w.length + dg * w.getD e 0 := by
        by_cases hc : v.getD (grS v o k) 0 < v.getD (grS v o k ||| 2 ^ e) 0
        · have eG : grS v o (k + 1) = grS v o k ||| 2 ^ e := by have := grS_yes (l := v) (o := o) (k := k) (by rw [hee]; exact hc); rw [hee] at this; exact this
          refine ⟨1, .inr rfl, ?_, ?_⟩
          · rw [eG, popAdd2 (by have := hgl k (by omega); omega) (by omega) hge]; omega
          · rw [eG, wV_or hge, if_pos (by omega), Int.one_mul]
        · have eG : grS v o (k + 1) = grS v o k := grS_no (by rw [hee]; exact hc)
          exact ⟨0, .inl rfl, by rw [eG]; omega, by rw [eG]; omega⟩
      obtain ⟨dx, _, px, wx⟩ := hstepX
      obtain ⟨dg, _, pg, wg⟩ := hstepG
      rw [wx, wg, px, pg]
      have hD : 0 ≤ (popN (grS v o k) : Int) + dg - ((popN (X &&& pfS o k) : Int) + dx) := by omega
      have hmul := Int.mul_le_mul_of_nonneg_left hqe hD
      have hexp : ((popN (grS v o k) : Int) + dg - ((popN (X &&& pfS o k) : Int) + dx)) * w.getD e 0 = ((popN (grS v o k) : Int) - (popN (X &&& pfS o k) : Int)) * w.getD e 0 + dg * w.getD e 0 - dx * w.getD e 0 := by
        rw [show (popN (grS v o k) : Int) + dg - ((popN (X &&& pfS o k) : Int) + dx) = ((popN (grS v o k) : Int) - (popN (X &&& pfS o k) : Int)) + dg - dx by omega, Int.sub_mul, Int.add_mul]
      omega
  obtain ⟨_, hk⟩ := key o.length (Nat.le_refl _)
  rw [hfull, Nat.and_comm, and_full hX] at hk
  have hb := getD_bd' (l := w) (M := 1000) (by omega) (by unfold vecV at hw; rw [Bool.and_eq_true] at hw; exact hw.2)
  have := hk (-1000) fun j _ => (hb _).1
  rw [hb_wV, eS]
  have hz : (popN (grS v o o.length) : Int) - (popN X : Int) = 0 := by rw [hcb] at x2; omega
  rw [hz, Int.zero_mul] at this
  omega
end Go.Proofs.YthoionlldmfpiaaGreat
