import Derived.Test.YthoionlldmfpiaaGreatT82
import Derived.Test.YthoionlldmfpiaaGreatHs
import Derived.Test.YthoionlldmfpiaaGreatT29
set_option linter.unusedSimpArgs false
set_option linter.unusedVariables false
set_option maxHeartbeats 2000000
namespace Go.Proofs.YthoionlldmfpiaaGreat
open Go Go.Ab
attribute [local irreducible] aol
attribute [local irreducible] popN
theorem bit_lt2 {n s i : Nat} (hs : s < 2 ^ n) (h : Nat.testBit s i = true) : i < n := Nat.lt_of_not_le fun hle => by rw [bit_hi hs hle] at h; cases h
theorem no_gain {n : Int} {l : List Int} (h : matV n l = true) {c s : Nat} (hc : c < 2 ^ n.toNat) (hs : s < 2 ^ n.toNat) (hg : ∀ e, Nat.testBit s e = true → l.getD (c ||| 2 ^ e) 0 ≤ l.getD c 0) : l.getD (c ||| s) 0 ≤ l.getD c 0 := by
  obtain ⟨hn, hlen, h32⟩ := mat_n5 h
  have hp := pol_iff.1 (mat_pol h)
  have key : ∀ d, d < 64 → d &&& s = d → l.getD (c ||| d) 0 ≤ l.getD c 0 := by
    refine bitsInd ?_ ?_
    · intro _; rw [Nat.or_zero]; exact Int.le_refl _
    · intro d i _ hd _ ih hds
      have hsub := sub_ext.1 hds
      have hi : Nat.testBit s i = true := hsub i (by rw [bit_or, decide_eq_true rfl, Bool.or_true])
      have hds' : d &&& s = d := by rw [sub_ext]; intro j hj; exact hsub j (by rw [bit_or, hj]; rfl)
      have hd2 : d < 2 ^ n.toNat := by rw [← hds']; exact Nat.lt_of_le_of_lt Nat.and_le_right hs
      have hin := bit_lt2 hs hi
      have h1 := ih hds'
      have h2 := hg i hi
      have hcd : c ||| d < 2 ^ n.toNat := Nat.or_lt_two_pow hc hd2
      have hci : c ||| 2 ^ i < 2 ^ n.toNat := or_lt hc hin
      have h3 := sub_pair hp.2.2.2 (s := c ||| d) (t := c ||| 2 ^ i) (by omega) (by omega)
      have e1 : c ||| d ||| (c ||| 2 ^ i) = c ||| (d ||| 2 ^ i) := by
        apply Nat.eq_of_testBit_eq; intro j
        simp only [Nat.testBit_or]
        cases Nat.testBit c j <;> cases Nat.testBit d j <;> cases Nat.testBit (2 ^ i) j <;> rfl
      have hm := pol_mono (mat_pol h) (s := c) (t := (c ||| d) &&& (c ||| 2 ^ i)) (by have := Nat.and_le_left (n := c ||| d) (m := c ||| 2 ^ i); omega) (by
        rw [sub_ext]; intro j hj
        rw [Nat.testBit_and, Nat.testBit_or, Nat.testBit_or, hj]; rfl)
      rw [e1] at h3
      omega
  exact key s (by omega) (Nat.and_self s)
theorem ext_ind {n : Int} {l : List Int} (h : matV n l = true) {s : Nat} (hs : s < 2 ^ n.toNat) : ∀ (q : Nat) (a : Nat), a &&& s = a → l.getD a 0 = (popN a : Int) → l.getD s 0 ≤ (popN a : Int) + q → ∃ c, c &&& s = c ∧ a &&& c = a ∧ l.getD c 0 = (popN c : Int) ∧ (popN c : Int) = l.getD s 0
  | 0, a, ha, hi, hq => by
    obtain ⟨hn, hlen, h32⟩ := mat_n5 h
    have hm := pol_mono (mat_pol h) (s := a) (t := s) (by omega) ha
    exact ⟨a, ha, Nat.and_self a, hi, by omega⟩
  | q + 1, a, ha, hi, hq => by
    obtain ⟨hn, hlen, h32⟩ := mat_n5 h
    have hm := pol_mono (mat_pol h) (s := a) (t := s) (by omega) ha
    have hal : a < 2 ^ n.toNat := by rw [← ha]; exact Nat.lt_of_le_of_lt Nat.and_le_right hs
    by_cases he : l.getD s 0 = (popN a : Int)
    · exact ⟨a, ha, Nat.and_self a, hi, he.symm⟩
    · have hex : ∃ e, Nat.testBit s e = true ∧ l.getD a 0 < l.getD (a ||| 2 ^ e) 0 := by
        refine Classical.byContradiction fun hno => ?_
        have := no_gain h hal hs fun e hbe => Int.not_lt.1 fun hlt => hno ⟨e, hbe, hlt⟩
        have e1 : a ||| s = s := by
          apply Nat.eq_of_testBit_eq; intro j
          have := sub_ext.1 ha j
          rw [Nat.testBit_or]; revert this
          cases Nat.testBit a j <;> cases Nat.testBit s j <;> simp
        rw [e1] at this
        omega
      obtain ⟨e, hbe, hlt⟩ := hex
      have hen := bit_lt2 hs hbe
      have hae : Nat.testBit a e = false := by
        cases hb : Nat.testBit a e with
        | false => rfl
        | true => rw [or_bit_same hb] at hlt; omega
      have hle := mat_le h (a ||| 2 ^ e) (by have := or_lt hal hen; omega)
      have hpa := popAdd2 (s := a) (b := e) (by omega) (by omega) hae
      obtain ⟨c, c1, c2, c3, c4⟩ := ext_ind h hs q (a ||| 2 ^ e) (by
        rw [sub_ext]; intro j hj
        rw [bit_or, Bool.or_eq_true, decide_eq_true_eq] at hj
        rcases hj with hj | hj
        · exact sub_ext.1 ha j hj
        · rw [← hj]; exact hbe) (by omega) (by omega)
      exact ⟨c, c1, by rw [sub_ext]; intro j hj; exact sub_ext.1 c2 j (by rw [bit_or, hj]; rfl), c3, c4⟩
theorem bs_iff {n : Int} {l : List Int} {B : Nat} : bsP n l (B : Int) = true ↔ l.getD B 0 = (popN B : Int) ∧ l.getD B 0 = l.getD (cbF n) 0 := by
  unfold bsP freeV; rw [Bool.and_eq_true, decide_eq_true_eq, decide_eq_true_eq, Int.toNat_natCast]
theorem mem_bsL {n : Int} {l : List Int} {x : Int} : x ∈ bsL n l ↔ ∃ B : Nat, x = (B : Int) ∧ B < 2 ^ n.toNat ∧ l.getD B 0 = (popN B : Int) ∧ l.getD B 0 = l.getD (cbF n) 0 := by
  unfold bsL
  rw [mem_rangeL]
  constructor
  · rintro ⟨⟨h0, h1⟩, hp⟩
    obtain ⟨B, rfl⟩ := Int.eq_ofNat_of_zero_le h0
    exact ⟨B, rfl, by omega, bs_iff.1 hp⟩
  · rintro ⟨B, rfl, hB, hp⟩
    exact ⟨⟨by omega, by omega⟩, bs_iff.2 hp⟩
theorem ext_basis {n : Int} {l : List Int} (h : matV n l = true) {a : Nat} (ha : a < 2 ^ n.toNat) (hi : l.getD a 0 = (popN a : Int)) : ∃ B, B < 2 ^ n.toNat ∧ a &&& B = a ∧ l.getD B 0 = (popN B : Int) ∧ l.getD B 0 = l.getD (cbF n) 0 := by
  have hcl := cbF_lt n
  have hcb : cbF n = 2 ^ n.toNat - 1 := rfl
  have hb := getD_bd (fnV_iff.1 (mat_fn h)).2.2 (cbF n)
  obtain ⟨c, c1, c2, c3, c4⟩ := ext_ind h (s := cbF n) (by omega) 1000 a (by rw [hcb, Nat.and_comm]; exact and_full ha) hi (by omega)
  exact ⟨c, Nat.lt_of_le_of_lt (by rw [← c1]; exact Nat.and_le_right) (by omega : cbF n < 2 ^ n.toNat), c2, c3, by omega⟩
theorem swapN_all : ((List.range 32).all fun a => (List.range 5).all fun e => (List.range 5).all fun d => !Nat.testBit a e || (Nat.testBit a d || (decide (e = d) || (decide ((a - 2 ^ e) ||| 2 ^ d + 0 = a - 2 ^ e + 2 ^ d) && (decide (a - 2 ^ e + 2 ^ d < 64) && (decide (2 ^ e ≤ a) && (decide ((a - 2 ^ e) ||| 2 ^ e = a) && (!Nat.testBit (a - 2 ^ e) e && !Nat.testBit (a - 2 ^ e) d)))))))) = true := by kernel_rfl
theorem swapN {a e d : Nat} (ha : a < 32) (he : e < 5) (hd : d < 5) (h1 : Nat.testBit a e = true) (h2 : Nat.testBit a d = false) (hne : e ≠ d) :
    (a - 2 ^ e) ||| 2 ^ d = a - 2 ^ e + 2 ^ d ∧ 2 ^ e ≤ a ∧ (a - 2 ^ e) ||| 2 ^ e = a ∧ Nat.testBit (a - 2 ^ e) e = false ∧ Nat.testBit (a - 2 ^ e) d = false := by
  have := List.all_eq_true.1 (List.all_eq_true.1 (List.all_eq_true.1 swapN_all a (List.mem_range.2 ha)) e (List.mem_range.2 he)) d (List.mem_range.2 hd)
  rw [h1, h2, decide_eq_false hne, Bool.not_true, Bool.false_or, Bool.false_or, Bool.false_or] at this
  simp only [Bool.and_eq_true, decide_eq_true_eq, Bool.not_eq_true'] at this
  obtain ⟨q1, q2, q3, q4, q5, q6⟩ := this
  exact ⟨q1, q3, q4, q5, q6⟩
theorem delN_all : ((List.range 32).all fun a => (List.range 5).all fun e => !Nat.testBit a e || (decide (2 ^ e ≤ a) && (decide ((a - 2 ^ e) ||| 2 ^ e = a) && (!Nat.testBit (a - 2 ^ e) e && decide (popN (a - 2 ^ e) + 1 = popN a))))) = true := by kernel_rfl
theorem delN {a e : Nat} (ha : a < 32) (he : e < 5) (h1 : Nat.testBit a e = true) : 2 ^ e ≤ a ∧ (a - 2 ^ e) ||| 2 ^ e = a ∧ Nat.testBit (a - 2 ^ e) e = false ∧ popN (a - 2 ^ e) + 1 = popN a := by
  have := List.all_eq_true.1 (List.all_eq_true.1 delN_all a (List.mem_range.2 ha)) e (List.mem_range.2 he)
  rw [h1, Bool.not_true, Bool.false_or] at this
  simp only [Bool.and_eq_true, decide_eq_true_eq, Bool.not_eq_true'] at this
  exact this
theorem bs_exch {n : Int} {l : List Int} (h : matV n l = true) {A B : Nat} (hA : A < 2 ^ n.toNat) (hB : B < 2 ^ n.toNat) (a1 : l.getD A 0 = (popN A : Int)) (a2 : l.getD A 0 = l.getD (cbF n) 0) (b2 : l.getD B 0 = l.getD (cbF n) 0)
    {e : Nat} (h1 : Nat.testBit A e = true) (h2 : Nat.testBit B e = false) : ∃ d, Nat.testBit B d = true ∧ Nat.testBit A d = false ∧ d < n.toNat ∧ A - 2 ^ e + 2 ^ d < 2 ^ n.toNat ∧ l.getD (A - 2 ^ e + 2 ^ d) 0 = (popN (A - 2 ^ e + 2 ^ d) : Int) ∧ l.getD (A - 2 ^ e + 2 ^ d) 0 = l.getD (cbF n) 0 := by
  obtain ⟨hn, hlen, h32⟩ := mat_n5 h
  have he := bit_lt2 hA h1
  obtain ⟨d1, d2, d3, d4⟩ := delN (a := A) (e := e) (by omega) (by omega) h1
  have hsub : (A - 2 ^ e) &&& A = A - 2 ^ e := by
    rw [sub_ext]; intro j hj
    rw [← d2, Nat.testBit_or, hj]; rfl
  have hci := ind_sub h hA hsub a1
  have hcA : A - 2 ^ e < 2 ^ n.toNat := Nat.lt_of_le_of_lt (Nat.sub_le ..) hA
  generalize hcc : A - 2 ^ e = c at *
  have hex : ∃ d, Nat.testBit B d = true ∧ l.getD c 0 < l.getD (c ||| 2 ^ d) 0 := by
    refine Classical.byContradiction fun hno => ?_
    have h3 := no_gain h hcA hB fun d hd => Int.not_lt.1 fun hlt => hno ⟨d, hd, hlt⟩
    have hcB := Nat.or_lt_two_pow hcA hB
    have h4 := pol_mono (mat_pol h) (s := B) (t := c ||| B) (by omega) (by
      rw [sub_ext]; intro j hj; rw [Nat.testBit_or, hj, Bool.or_true])
    omega
  obtain ⟨d, hd, hlt⟩ := hex
  have hdn := bit_lt2 hB hd
  have hne : e ≠ d := fun x => by subst x; rw [h2] at hd; cases hd
  have hcd : Nat.testBit c d = false := by
    cases hb : Nat.testBit c d with
    | false => rfl
    | true => rw [or_bit_same hb] at hlt; omega
  have hAd : Nat.testBit A d = false := by
    rw [← d2, bit_or, hcd, decide_eq_false hne]; rfl
  obtain ⟨s1, _, _, _, _⟩ := swapN (a := A) (e := e) (d := d) (by omega) (by omega) (by omega) h1 hAd hne
  rw [hcc] at s1
  have hlt2 : c ||| 2 ^ d < 2 ^ n.toNat := or_lt hcA hdn
  have hp := popAdd2 (s := c) (b := d) (by omega) (by omega) hcd
  have hle := mat_le h (c ||| 2 ^ d) (by omega)
  rw [s1] at hlt hlt2 hp hle
  exact ⟨d, hd, hAd, hdn, hlt2, by omega, by omega⟩
theorem bs_fam {n : Int} {l : List Int} (h : matV n l = true) : famV n (bsL n l) = true := by
  obtain ⟨hn, _, _⟩ := mat_n5 h
  exact rangeL_fam ⟨hn.1, by omega⟩ _
theorem getD_mem {l : List Int} {i : Nat} (h : i < l.length) : l.getD i 0 ∈ l := by
  rw [List.getD_eq_getElem?_getD, List.getElem?_eq_getElem h]; exact List.getElem_mem h
theorem bs_bas {n : Int} {l : List Int} (h : matV n l = true) : basV n (bsL n l) = true := by
  obtain ⟨hn, hlen, h32⟩ := mat_n5 h
  have hp := pol_iff.1 (mat_pol h)
  unfold basV
  rw [bs_fam h, Bool.true_and, Bool.and_eq_true, Bool.not_eq_true', decide_eq_false_iff_not]
  constructor
  · obtain ⟨B, b1, _, b3, b4⟩ := ext_basis h (a := 0) (Nat.two_pow_pos _) (by rw [hp.2.1, pop0]; rfl)
    have := mem_bsL.2 ⟨B, rfl, b1, b3, b4⟩
    intro e
    rw [List.length_eq_zero_iff.1 e] at this
    cases this
  · unfold basA
    rw [List.all_eq_true]
    intro i hi
    rw [List.all_eq_true]
    intro k hk
    rw [List.mem_range] at hi hk
    obtain ⟨A, eA, hA, a1, a2⟩ := mem_bsL.1 (getD_mem hi)
    obtain ⟨B, eB, hB, b1, b2⟩ := mem_bsL.1 (getD_mem hk)
    rw [eA, eB, Int.toNat_natCast, Int.toNat_natCast]
    unfold bxV
    rw [List.all_eq_true]
    intro e he
    unfold bxS
    cases h1 : Nat.testBit A e with
    | false => rfl
    | true =>
      cases h2 : Nat.testBit B e with
      | true => rfl
      | false =>
        show (false || (List.range n.toNat).any (bxE (bsL n l) A B e)) = true
        rw [Bool.false_or, List.any_eq_true]
        obtain ⟨d, q1, q2, q3, q4, q5, q6⟩ := bs_exch h hA hB a1 a2 b2 h1 h2
        refine ⟨d, List.mem_range.2 q3, ?_⟩
        unfold bxE
        rw [q1, q2, Bool.true_and, Bool.not_false, Bool.true_and, decide_eq_true_eq]
        obtain ⟨d1, _, _, _⟩ := delN (a := A) (e := e) (by omega) (by have := List.mem_range.1 he; omega) h1
        rw [mem_bsL]
        exact ⟨A - 2 ^ e + 2 ^ d, by omega, q4, q5, q6⟩
theorem rbV_spec {m : List Int} {s : Nat} : ∀ k, (∀ i, i < k → rbT m s i ≤ rbV m s k) ∧ (rbV m s k = 0 ∨ ∃ i, i < k ∧ rbV m s k = rbT m s i)
  | 0 => ⟨fun i hi => by omega, .inl rfl⟩
  | k + 1 => by
    obtain ⟨h1, h2⟩ := rbV_spec (m := m) (s := s) k
    rw [rbV_succ]
    by_cases hlt : rbV m s k < rbT m s k
    · rw [if_pos hlt]
      refine ⟨fun i hi => ?_, .inr ⟨k, by omega, rfl⟩⟩
      by_cases e : i = k
      · subst e; exact Int.le_refl _
      · have := h1 i (by omega); omega
    · rw [if_neg hlt]
      refine ⟨fun i hi => ?_, ?_⟩
      · by_cases e : i = k
        · subst e; omega
        · exact h1 i (by omega)
      · rcases h2 with h2 | ⟨i, a1, a2⟩
        · exact .inl h2
        · exact .inr ⟨i, by omega, a2⟩
theorem rb_spec {g : Int} {m : List Int} (hf : famV g m = true) (hne : m.length ≠ 0) {s : Nat} (hs : s < 64) :
    (∀ B : Nat, (B : Int) ∈ m → (popN (s &&& B) : Int) ≤ rbF m (s : Int)) ∧ ∃ B : Nat, (B : Int) ∈ m ∧ rbF m (s : Int) = (popN (s &&& B) : Int) := by
  have hf' := famV_iff.1 hf
  have hp6 := pow_le6 hf'.1
  have hT : ∀ i, i < m.length → ∃ B : Nat, m.getD i 0 = (B : Int) ∧ B < 64 ∧ rbT m s i = (popN (s &&& B) : Int) := fun i hi => by
    have h1 := getD_all hf'.2.1 hi
    rw [isSet_range hf'.1.1] at h1
    obtain ⟨B, hB⟩ := Int.eq_ofNat_of_zero_le h1.1
    refine ⟨B, hB, by omega, ?_⟩
    unfold rbT
    rw [hB, iand_nat (by omega) (by omega), Int.toNat_natCast]
  obtain ⟨h1, h2⟩ := rbV_spec (m := m) (s := s) m.length
  have e : rbF m (s : Int) = rbV m s m.length := by unfold rbF; rw [Int.toNat_natCast]
  rw [e]
  constructor
  · intro B hB
    obtain ⟨i, hi, eB⟩ := List.getElem_of_mem hB
    have eB' : m.getD i 0 = (B : Int) := by rw [List.getD_eq_getElem?_getD, List.getElem?_eq_getElem hi]; exact eB
    obtain ⟨B', q1, _, q3⟩ := hT i hi
    obtain rfl : B = B' := by omega
    rw [← q3]; exact h1 i hi
  · rcases h2 with h2 | ⟨i, hi, h2⟩
    · obtain ⟨B, q1, _, q3⟩ := hT 0 (by omega)
      refine ⟨B, by rw [← q1]; exact getD_mem (by omega), ?_⟩
      have := h1 0 (by omega)
      omega
    · obtain ⟨B, q1, _, q3⟩ := hT i hi
      exact ⟨B, by rw [← q1]; exact getD_mem hi, by rw [h2, q3]⟩
def rbL (g : Int) (m : List Int) : List Int := mkL (rbF m) (2 ^ g.toNat)
theorem ext_getD {x y : List Int} (hl : x.length = y.length) (h : ∀ i, i < x.length → x.getD i 0 = y.getD i 0) : x = y := by
  apply List.ext_getElem?
  intro i
  by_cases hi : i < x.length
  · have := h i hi
    rw [List.getD_eq_getElem?_getD, List.getD_eq_getElem?_getD, List.getElem?_eq_getElem hi, List.getElem?_eq_getElem (by omega)] at this
    rw [List.getElem?_eq_getElem hi, List.getElem?_eq_getElem (by omega)]
    exact congrArg some this
  · rw [List.getElem?_eq_none (by omega), List.getElem?_eq_none (by omega)]
theorem rb_back {n : Int} {l : List Int} (h : matV n l = true) : rbL n (bsL n l) = l := by
  obtain ⟨hn, hlen, h32⟩ := mat_n5 h
  have hb := bs_bas h
  have hne : (bsL n l).length ≠ 0 := by
    unfold basV at hb
    rw [Bool.and_eq_true, Bool.and_eq_true, Bool.not_eq_true', decide_eq_false_iff_not] at hb
    exact hb.2.1
  refine ext_getD (by unfold rbL; rw [mkL_len, hlen]) fun s hs => ?_
  unfold rbL at hs ⊢
  rw [mkL_len] at hs
  rw [mkL_get hs]
  obtain ⟨r1, B, r2, r3⟩ := rb_spec (bs_fam h) hne (s := s) (by omega)
  obtain ⟨B', e, hB, b1, b2⟩ := mem_bsL.1 r2
  obtain rfl : B = B' := by omega
  have hi := ind_sub h hB (a := s &&& B) (by rw [Nat.and_assoc, Nat.and_self]) b1
  have hm := pol_mono (mat_pol h) (s := s &&& B) (t := s) (by omega) (by rw [Nat.and_comm s B, Nat.and_assoc, Nat.and_self])
  obtain ⟨a, a1, a2, a3⟩ := max_ind h s hs
  have hal : a < 2 ^ n.toNat := by rw [← a1]; exact Nat.lt_of_le_of_lt Nat.and_le_right hs
  obtain ⟨C, c1, c2, c3, c4⟩ := ext_basis h hal a2
  have h5 := r1 C (mem_bsL.2 ⟨C, rfl, c1, c3, c4⟩)
  have hsub : a &&& (s &&& C) = a := by rw [← Nat.and_assoc, a1, c2]
  have h6 := (subC (s := s &&& C) (a := a) (Nat.lt_of_le_of_lt Nat.and_le_left (by omega)) hsub).1
  omega
end Go.Proofs.YthoionlldmfpiaaGreat
