import Derived.Test.YthoionlldmfpiaaGreatHs
import Derived.Test.YthoionlldmfpiaaGreatT89
set_option linter.unusedSimpArgs false
set_option linter.unusedVariables false
set_option maxHeartbeats 2000000
namespace Go.Proofs.YthoionlldmfpiaaGreat
open Go Go.Ab
attribute [local irreducible] aol
attribute [local irreducible] popN
theorem wV_ones {m s : Nat} (hm : m ≤ 6) (hs : s < 2 ^ m) : wV (List.replicate m 1) s m = (popN s : Int) := by
  have hx : ∀ i, i < m → (List.replicate m (1 : Int)).getD i 0 = 1 := fun i hi => by
    rw [List.getD_eq_getElem?_getD, List.getElem?_replicate, if_pos hi]; rfl
  obtain ⟨a, ha, hw, hb⟩ := bits_of (x := List.replicate m 1) (n := m) hm fun i hi => .inr (hx i hi)
  have h64 : 2 ^ m ≤ 64 := Nat.le_trans (Nat.pow_le_pow_right (by omega) hm) (by decide)
  have e : s &&& a = s := by
    rw [sub_ext]; intro j hj
    have hjm := bit_lt2 hs hj
    exact (hb j hjm).2 (hx j hjm)
  rw [hw s (by omega), e]
theorem dr_get {n : Int} {l : List Int} (hn : 0 ≤ n ∧ n ≤ 5) {s : Nat} (hs : s < 2 ^ n.toNat) : (drL n l).getD s 0 = (popN s : Int) + l.getD (2 ^ n.toNat - 1 - s) 0 - l.getD (2 ^ n.toNat - 1) 0 := by
  unfold drL dlL
  rw [mkL_get hs]
  unfold dlF
  rw [Int.toNat_natCast, List.length_replicate, wV_ones (by omega) hs]; rfl
theorem dr_bd {n : Int} {l : List Int} (h : matV n l = true) {s : Nat} (hs : s < 2 ^ n.toNat) : 0 ≤ (drL n l).getD s 0 ∧ (drL n l).getD s 0 ≤ (popN s : Int) := by
  obtain ⟨hn, hlen, h32⟩ := mat_n5 h
  have hp := pol_iff.1 (mat_pol h)
  have hpos := Nat.two_pow_pos n.toNat
  rw [dr_get hn hs]
  have hm := pol_mono (mat_pol h) (s := 2 ^ n.toNat - 1 - s) (t := 2 ^ n.toNat - 1) (by omega) (by rw [Nat.and_comm]; exact and_full cpl_lt)
  have hsb := sub_pair hp.2.2.2 (s := 2 ^ n.toNat - 1 - s) (t := s) (by omega) (by omega)
  have e1 : 2 ^ n.toNat - 1 - s ||| s = 2 ^ n.toNat - 1 := by
    apply Nat.eq_of_testBit_eq; intro j
    have := cplN (n := n.toNat) (s := 0) hpos j
    rw [Nat.sub_zero] at this
    rw [this, Nat.testBit_or, cplN hs, Nat.zero_testBit]
    by_cases hj : j < n.toNat
    · rw [decide_eq_true hj]; cases Nat.testBit s j <;> rfl
    · rw [decide_eq_false hj, bit_hi hs (by omega)]; rfl
  have e2 : (2 ^ n.toNat - 1 - s) &&& s = 0 := by
    apply Nat.eq_of_testBit_eq; intro j
    rw [Nat.testBit_and, cplN hs, Nat.zero_testBit]
    cases Nat.testBit s j <;> cases decide (j < n.toNat) <;> rfl
  rw [e1, e2, hp.2.1] at hsb
  have hle := mat_le h s (by omega)
  omega
theorem pop_le5 {n s : Nat} (hn : n ≤ 5) (hs : s < 2 ^ n) : popN s ≤ 5 := by
  have := pop_full (n := n) (by omega) hs
  omega
theorem dr_mat {n : Int} {l : List Int} (h : matV n l = true) : matV n (drL n l) = true := by
  obtain ⟨hn, hlen, h32⟩ := mat_n5 h
  have hp := pol_iff.1 (mat_pol h)
  have hpos := Nat.two_pow_pos n.toNat
  have eV : ∀ s : Nat, s < 2 ^ n.toNat → dlF n l (List.replicate n.toNat 1) (s : Int) = (popN s : Int) + l.getD (2 ^ n.toNat - 1 - s) 0 - l.getD (2 ^ n.toNat - 1) 0 := fun s hs => by
    have := dr_get (l := l) hn hs
    unfold drL dlL at this
    rw [mkL_get hs] at this; exact this
  have hf : fnV n (mkL (dlF n l (List.replicate n.toNat 1)) (2 ^ n.toNat)) = true := mk_fn hn fun s hs => by
    have h1 := dr_bd h hs
    rw [dr_get hn hs] at h1
    have h2 := pop_le5 (n := n.toNat) (by omega) hs
    rw [eV s hs]; omega
  unfold matV
  rw [Bool.and_eq_true]
  refine ⟨pol_mk hf ?_ (fun s i hs hi => ?_) (sub_mk hf fun s i k hs hik hk b1 b2 => ?_), ?_⟩
  · have := eV 0 hpos
    rw [pop0, Nat.sub_zero] at this
    have e : dlF n l (List.replicate n.toNat 1) 0 = dlF n l (List.replicate n.toNat 1) ((0 : Nat) : Int) := rfl
    rw [e, this]; omega
  · have hsi : s ||| 2 ^ i < 2 ^ n.toNat := or_lt hs hi
    cases hb : Nat.testBit s i with
    | true => rw [or_bit_same hb]; exact Int.le_refl _
    | false =>
      rw [eV s hs, eV _ hsi, popAdd2 (by omega) (by omega) hb]
      have e : 2 ^ n.toNat - 1 - (s ||| 2 ^ i) ||| 2 ^ i = 2 ^ n.toNat - 1 - s := by
        apply Nat.eq_of_testBit_eq; intro j
        rw [bit_or, cplN hsi, cplN hs, bit_or]
        by_cases hij : i = j
        · subst hij; rw [hb, decide_eq_true hi, decide_eq_true rfl]; rfl
        · rw [decide_eq_false hij, Bool.or_false, Bool.or_false]
      have hx : Nat.testBit (2 ^ n.toNat - 1 - (s ||| 2 ^ i)) i = false := by
        rw [cplN hsi, bit_or, decide_eq_true rfl, Bool.or_true, Bool.not_true, Bool.and_false]
      have g1 := gain_le (mat_pol h) hi (2 ^ n.toNat - 1 - (s ||| 2 ^ i)) (by omega) hx
      rw [e] at g1
      have g2 := one_at h hi
      omega
  · have hi : i < n.toNat := by omega
    have hS : s ||| 2 ^ i < 2 ^ n.toNat := or_lt hs hi
    have hU : s ||| 2 ^ k < 2 ^ n.toNat := or_lt hs hk
    have hO : s ||| 2 ^ i ||| 2 ^ k < 2 ^ n.toNat := or_lt hS hk
    rw [eV _ hO, eV s hs, eV _ hS, eV _ hU, popAdd2 (s := s ||| 2 ^ i) (b := k) (by omega) (by omega) (bit_ne (by omega) b2), popAdd2 (s := s) (b := i) (by omega) (by omega) b1, popAdd2 (s := s) (b := k) (by omega) (by omega) b2]
    have hsb := sub_pair hp.2.2.2 (s := 2 ^ n.toNat - 1 - (s ||| 2 ^ i)) (t := 2 ^ n.toNat - 1 - (s ||| 2 ^ k)) (by omega) (by omega)
    have e1 : (s ||| 2 ^ i) ||| (s ||| 2 ^ k) = s ||| 2 ^ i ||| 2 ^ k := by
      apply Nat.eq_of_testBit_eq; intro j
      rw [Nat.testBit_or, bit_or, bit_or, bit_or, bit_or]
      cases Nat.testBit s j <;> cases decide (i = j) <;> cases decide (k = j) <;> rfl
    have e2 : (s ||| 2 ^ i) &&& (s ||| 2 ^ k) = s := by
      apply Nat.eq_of_testBit_eq; intro j
      rw [Nat.testBit_and, bit_or, bit_or]
      by_cases e1 : i = j
      · subst e1; rw [b1, decide_eq_false (show ¬ k = i by omega)]; simp
      · rw [decide_eq_false e1]; cases Nat.testBit s j <;> simp
    rw [cpl_or hS hU, cpl_and hS hU, e1, e2] at hsb
    omega
  · unfold oneV
    rw [List.all_eq_true]
    intro e he
    rw [List.mem_range] at he
    have h2e : 2 ^ e < 2 ^ n.toNat := Nat.pow_lt_pow_right (by omega) he
    rw [Bool.not_eq_true', decide_eq_false_iff_not, dr_get hn h2e]
    have hm := pol_mono (mat_pol h) (s := 2 ^ n.toNat - 1 - 2 ^ e) (t := 2 ^ n.toNat - 1) (by omega) (by rw [Nat.and_comm]; exact and_full cpl_lt)
    have := popAdd2 (s := 0) (b := e) (by omega) (by omega) (Nat.zero_testBit e)
    rw [Nat.zero_or, pop0] at this
    omega
theorem dr_ok {n : Int} {l : List Int} (h : matV n l = true) : okDr n l = true := by
  unfold okDr; rw [h, mat_fn (dr_mat h)]; rfl
theorem dr_full {n : Int} {l : List Int} (h : matV n l = true) : (drL n l).getD (2 ^ n.toNat - 1) 0 = n - l.getD (2 ^ n.toNat - 1) 0 := by
  obtain ⟨hn, hlen, h32⟩ := mat_n5 h
  have hpos := Nat.two_pow_pos n.toNat
  have hp := pol_iff.1 (mat_pol h)
  rw [dr_get hn (by omega), Nat.sub_self, hp.2.1]
  have := pop_full (n := n.toNat) (by omega) hpos
  rw [Nat.sub_zero, pop0] at this
  omega
theorem rangeL_cg {p q : Int → Bool} {n : Nat} (h : ∀ k : Nat, k < n → p (k : Int) = q (k : Int)) : rangeL p n = rangeL q n := by
  unfold rangeL
  rw [List.filter_congr fun i hi => h i (List.mem_range.1 hi)]
theorem dr_bases {n : Int} {l : List Int} (h : matV n l = true) : bsL n (drL n l) = (bsL n l).reverse.map fun x => 2 ^ n.toNat - 1 - x := by
  obtain ⟨hn, hlen, h32⟩ := mat_n5 h
  have hpw := pow_nat n.toNat
  have hcb : cbF n = 2 ^ n.toNat - 1 := rfl
  rw [← compl_eq (bs_fam h)]
  unfold bsL
  refine rangeL_cg fun k hk => ?_
  have hset : isSet n (k : Int) = true := isSet_in ⟨by omega, by omega⟩
  have e0 : (2 : Int) ^ n.toNat - 1 - (k : Int) = ((2 ^ n.toNat - 1 - k : Nat) : Int) := by omega
  rw [iandn_full ⟨hn.1, by omega⟩ hset, e0, Bool.eq_iff_iff, decide_eq_true_eq, bs_iff]
  have hmem := mem_bsL (n := n) (l := l) (x := ((2 ^ n.toNat - 1 - k : Nat) : Int))
  unfold bsL at hmem
  rw [hmem, hcb, dr_full h, dr_get hn hk]
  have pf := pop_full (n := n.toNat) (by omega) hk
  constructor
  · rintro ⟨q1, q2⟩
    exact ⟨_, rfl, cpl_lt, by omega, by omega⟩
  · rintro ⟨B, eB, _, q1, q2⟩
    obtain rfl : 2 ^ n.toNat - 1 - k = B := by omega
    omega
theorem dr_back {n : Int} {l : List Int} (h : matV n l = true) : drL n (drL n l) = l := by
  obtain ⟨hn, hlen, h32⟩ := mat_n5 h
  have hL : ∀ x : List Int, (drL n x).length = 2 ^ n.toNat := fun x => mkL_len ..
  refine ext_getD (by rw [hL, hlen]) fun s hs => ?_
  rw [hL] at hs
  rw [dr_get hn hs, dr_get hn cpl_lt, dr_full h, show 2 ^ n.toNat - 1 - (2 ^ n.toNat - 1 - s) = s by omega]
  have pf := pop_full (n := n.toNat) (by omega) hs
  omega
theorem pick_at {p : Nat → Bool} {l : List Int} {n : Nat} {x : Int} (h : x ∈ pickL p l n) : ∃ i, i < n ∧ p i = true ∧ x = l.getD i 0 := by
  unfold pickL at h
  simp only [List.mem_map, List.mem_filter, List.mem_range] at h
  obtain ⟨i, ⟨h1, h2⟩, rfl⟩ := h
  exact ⟨i, h1, h2, rfl⟩
theorem ci_at {n : Int} {l : List Int} (h : matV n l = true) {x : Int} (hx : x ∈ minV (ciL n l)) : ∃ S : Nat, x = (S : Int) ∧ S < 2 ^ n.toNat ∧ freeV l (S : Int) = false ∧ l.getD S 0 = (popN S : Int) - 1 := by
  obtain ⟨hn, hlen, h32⟩ := mat_n5 h
  have hp := pol_iff.1 (mat_pol h)
  have hfm : famV n (ciL n l) = true := rangeL_fam ⟨hn.1, by omega⟩ _
  have hf' := famV_iff.1 hfm
  rw [minV_eq (n := n) (by omega) hf'.2.1 hf'.2.2] at hx
  obtain ⟨i, hi, hpi, rfl⟩ := pick_at hx
  have hmem := getD_mem hi
  have hmc : ∀ {y : Int}, y ∈ ciL n l ↔ ∃ S : Nat, y = (S : Int) ∧ S < 2 ^ n.toNat ∧ freeV l (S : Int) = false := fun {y} => by
    unfold ciL
    rw [mem_rangeL]
    constructor
    · rintro ⟨⟨h0, h1⟩, hq⟩
      obtain ⟨S, rfl⟩ := Int.eq_ofNat_of_zero_le h0
      unfold ciP at hq
      rw [Bool.not_eq_true'] at hq
      exact ⟨S, rfl, by omega, hq⟩
    · rintro ⟨S, rfl, hS, hq⟩
      refine ⟨⟨by omega, by omega⟩, ?_⟩
      unfold ciP; rw [hq]; rfl
  obtain ⟨S, eS, hS, hfr⟩ := hmc.1 hmem
  rw [eS] at hpi ⊢
  refine ⟨S, rfl, hS, hfr, ?_⟩
  rw [Bool.not_eq_true', List.any_eq_false] at hpi
  have hfr' := hfr
  unfold freeV at hfr'
  rw [decide_eq_false_iff_not, Int.toNat_natCast] at hfr'
  have hle := mat_le h S (by omega)
  have hS0 : S ≠ 0 := fun e => by subst e; rw [hp.2.1, pop0] at hfr'; exact hfr' rfl
  obtain ⟨t1, t2, t3⟩ := topBit (s := S) (by omega) hS0
  obtain ⟨t4, t5⟩ := topBit2 (s := S) (by omega) hS0
  generalize hT : S - 2 ^ S.log2 = T at t1 t2 t4 t5
  have hTs : T &&& S = T := by rw [sub_ext]; intro j hj; rw [← t2, Nat.testBit_or, hj]; rfl
  have hmono := pol_mono (mat_pol h) (s := T) (t := S) (by omega) hTs
  have hTf : freeV l (T : Int) = true := by
    cases hc : freeV l (T : Int) with
    | true => rfl
    | false =>
      have := hpi (T : Int) (hmc.2 ⟨T, rfl, by omega, hc⟩)
      unfold mnC at this
      rw [decide_eq_false (show ¬ (T : Int) = (S : Int) by omega), (iandn_zero' (x := T) (s := S) (by omega) (by omega)).2 (by rw [iand_nat (by omega) (by omega), hTs]), decide_eq_true rfl] at this
      exact absurd rfl this
  unfold freeV at hTf
  rw [decide_eq_true_eq, Int.toNat_natCast] at hTf
  omega
theorem ex_at {g : Int} {m : List Int} (h : basV g m = true) {A B : Nat} (hA : (A : Int) ∈ m) (hB : (B : Int) ∈ m) {e : Nat} (h1 : Nat.testBit A e = true) (h2 : Nat.testBit B e = false) :
    (A < 2 ^ g.toNat ∧ B < 2 ^ g.toNat) ∧ ∃ d, d < g.toNat ∧ Nat.testBit B d = true ∧ Nat.testBit A d = false ∧ ((A : Int) - ((2 ^ e : Nat) : Int) + ((2 ^ d : Nat) : Int)) ∈ m := by
  have hf := famV_iff.1 (bas_fam h)
  have hin : ∀ {C : Nat}, (C : Int) ∈ m → C < 2 ^ g.toNat := fun {C} hC => by
    have := List.all_eq_true.1 hf.2.1 _ hC
    rw [isSet_range hf.1.1] at this; omega
  refine ⟨⟨hin hA, hin hB⟩, ?_⟩
  unfold basV at h
  rw [Bool.and_eq_true, Bool.and_eq_true] at h
  have hb := h.2.2
  unfold basA at hb
  obtain ⟨i, hi, eA⟩ := List.getElem_of_mem hA
  obtain ⟨k, hk, eB⟩ := List.getElem_of_mem hB
  have hx := List.all_eq_true.1 (List.all_eq_true.1 hb i (List.mem_range.2 hi)) k (List.mem_range.2 hk)
  have eA' : m.getD i 0 = (A : Int) := by rw [List.getD_eq_getElem?_getD, List.getElem?_eq_getElem hi]; exact eA
  have eB' : m.getD k 0 = (B : Int) := by rw [List.getD_eq_getElem?_getD, List.getElem?_eq_getElem hk]; exact eB
  rw [eA', eB', Int.toNat_natCast, Int.toNat_natCast] at hx
  unfold bxV at hx
  have := List.all_eq_true.1 hx e (List.mem_range.2 (bit_lt2 (hin hA) h1))
  unfold bxS at this
  rw [h1, h2, Bool.not_false, Bool.and_self, Bool.not_true, Bool.false_or, List.any_eq_true] at this
  obtain ⟨d, hd, hdx⟩ := this
  unfold bxE at hdx
  rw [Bool.and_eq_true, Bool.and_eq_true, Bool.not_eq_true', decide_eq_true_eq] at hdx
  exact ⟨d, List.mem_range.1 hd, hdx.1, hdx.2.1, hdx.2.2⟩
theorem swI_all : ((List.range 32).all fun A => (List.range 32).all fun s => (List.range 5).all fun e => (List.range 5).all fun d => !Nat.testBit A e || (Nat.testBit A d || (decide (popN (s &&& (A - 2 ^ e + 2 ^ d)) + (if Nat.testBit s e then 1 else 0) = popN (s &&& A) + (if Nat.testBit s d then 1 else 0))))) = true := by kernel_rfl
theorem swI {A s e d : Nat} (hA : A < 32) (hs : s < 32) (he : e < 5) (hd : d < 5) (h1 : Nat.testBit A e = true) (h2 : Nat.testBit A d = false) : popN (s &&& (A - 2 ^ e + 2 ^ d)) + (if Nat.testBit s e then 1 else 0) = popN (s &&& A) + (if Nat.testBit s d then 1 else 0) := by
  have := List.all_eq_true.1 (List.all_eq_true.1 (List.all_eq_true.1 (List.all_eq_true.1 swI_all A (List.mem_range.2 hA)) s (List.mem_range.2 hs)) e (List.mem_range.2 he)) d (List.mem_range.2 hd)
  rw [h1, h2, Bool.not_true, Bool.false_or, Bool.false_or, decide_eq_true_eq] at this
  exact this
theorem cap_or {s i B : Nat} (hB : Nat.testBit B i = true) : (s ||| 2 ^ i) &&& B = (s &&& B) ||| 2 ^ i := by
  apply Nat.eq_of_testBit_eq; intro j
  rw [Nat.testBit_and, bit_or, bit_or, Nat.testBit_and]
  by_cases e : i = j
  · subst e; rw [hB]; simp
  · rw [decide_eq_false e, Bool.or_false, Bool.or_false]
theorem cap_no {s i B : Nat} (hB : Nat.testBit B i = false) : (s ||| 2 ^ i) &&& B = s &&& B := by
  apply Nat.eq_of_testBit_eq; intro j
  rw [Nat.testBit_and, bit_or, Nat.testBit_and]
  by_cases e : i = j
  · subst e; rw [hB]; simp
  · rw [decide_eq_false e, Bool.or_false]
theorem cap_pop {s i B : Nat} (hs : s < 32) (hi : i < 5) (hsi : Nat.testBit s i = false) : popN ((s ||| 2 ^ i) &&& B) = popN (s &&& B) + if Nat.testBit B i then 1 else 0 := by
  cases hB : Nat.testBit B i with
  | true =>
    rw [cap_or hB, popAdd2 (Nat.lt_of_le_of_lt Nat.and_le_left (by omega)) (by omega) (by rw [Nat.testBit_and, hsi]; rfl)]; rfl
  | false => rw [cap_no hB]; rfl
theorem rb_heart {g : Int} {m : List Int} (h : basV g m = true) (hg : g ≤ 5) {s i k ρ : Nat} (hs : s < 2 ^ g.toNat) (hi : i < g.toNat) (hk : k < g.toNat) (hik : i ≠ k) (hsi : Nat.testBit s i = false) (hsk : Nat.testBit s k = false)
    (hρi : ∀ B : Nat, (B : Int) ∈ m → popN (s &&& B) + (if Nat.testBit B i then 1 else 0) ≤ ρ) (hρk : ∀ B : Nat, (B : Int) ∈ m → popN (s &&& B) + (if Nat.testBit B k then 1 else 0) ≤ ρ) :
    ∀ (q B C : Nat), (B : Int) ∈ m → (C : Int) ∈ m → Nat.testBit B i = true → Nat.testBit B k = true → popN (s &&& B) + 1 = ρ → popN (s &&& C) = ρ → 6 ≤ popN (B &&& C) + q → False
  | q, B, C, hB, hC, hBi, hBk, pB, pC, hq => by
    have hf := famV_iff.1 (bas_fam h)
    have h32 : 2 ^ g.toNat ≤ 32 := Nat.le_trans (Nat.pow_le_pow_right (by omega) (show g.toNat ≤ 5 by omega)) (by decide)
    have hin : ∀ {D : Nat}, (D : Int) ∈ m → D < 2 ^ g.toNat := fun {D} hD => by
      have := List.all_eq_true.1 hf.2.1 _ hD
      rw [isSet_range hf.1.1] at this; omega
    have hCi : Nat.testBit C i = false := by
      cases e : Nat.testBit C i with
      | false => rfl
      | true => have := hρi C hC; rw [e, if_pos rfl] at this; omega
    have hCk : Nat.testBit C k = false := by
      cases e : Nat.testBit C k with
      | false => rfl
      | true => have := hρk C hC; rw [e, if_pos rfl] at this; omega
    have hBl := hin hB
    have hCl := hin hC
    have hcap : popN (B &&& C) ≤ 5 := pop_le5 (n := g.toNat) (by omega) (Nat.lt_of_le_of_lt Nat.and_le_left hBl)
    by_cases hc1 : ∃ e, Nat.testBit B e = true ∧ Nat.testBit C e = false ∧ Nat.testBit s e = false ∧ e ≠ i ∧ e ≠ k
    · obtain ⟨e, e1, e2, e3, e4, e5⟩ := hc1
      obtain ⟨_, d, d1, d2, d3, d4⟩ := ex_at h hB hC e1 e2
      have heg := bit_lt2 hBl e1
      obtain ⟨w1, _, _, _⟩ := delN (a := B) (e := e) (by omega) (by omega) e1
      have eN : (B : Int) - ((2 ^ e : Nat) : Int) + ((2 ^ d : Nat) : Int) = ((B - 2 ^ e + 2 ^ d : Nat) : Int) := by omega
      rw [eN] at d4
      have hsw := fun t (ht : t < 32) => swI (A := B) (s := t) (e := e) (d := d) (by omega) ht (by omega) (by omega) e1 d3
      have hne : e ≠ d := fun x => by subst x; rw [e1] at d3; cases d3
      obtain ⟨s1, _, s3, _, _⟩ := swapN (a := B) (e := e) (d := d) (by omega) (by omega) (by omega) e1 d3 hne
      have hb : ∀ j, Nat.testBit (B - 2 ^ e + 2 ^ d) j = (Nat.testBit (B - 2 ^ e) j || decide (d = j)) := fun j => by rw [← s1, bit_or]
      have hb2 : ∀ j, j ≠ e → Nat.testBit (B - 2 ^ e) j = Nat.testBit B j := fun j hj => by
        have : Nat.testBit ((B - 2 ^ e) ||| 2 ^ e) j = Nat.testBit B j := by rw [s3]
        rw [bit_or, decide_eq_false (fun x => hj x.symm), Bool.or_false] at this; exact this
      have hBi' : Nat.testBit (B - 2 ^ e + 2 ^ d) i = true := by rw [hb, hb2 i (fun x => e4 x.symm), hBi]; rfl
      have hBk' : Nat.testBit (B - 2 ^ e + 2 ^ d) k = true := by rw [hb, hb2 k (fun x => e5 x.symm), hBk]; rfl
      have hs1 := hsw s (by omega)
      rw [e3, if_neg (by decide)] at hs1
      have hle := hρi _ d4
      rw [hBi', if_pos rfl] at hle
      have hds : Nat.testBit s d = false := by
        cases e : Nat.testBit s d with
        | false => rfl
        | true => rw [e, if_pos rfl] at hs1; omega
      rw [hds, if_neg (by decide)] at hs1
      have hs2 := hsw C (by omega)
      rw [e2, d2, if_neg (by decide), if_pos rfl, Nat.and_comm C B] at hs2
      cases q with
      | zero => omega
      | succ q => exact rb_heart h hg hs hi hk hik hsi hsk hρi hρk q _ C d4 hC hBi' hBk' (by omega) pC (by rw [Nat.and_comm]; omega)
    · have hBT : ∀ e, Nat.testBit B e = true → Nat.testBit C e = false → Nat.testBit s e = true ∨ e = i ∨ e = k := fun e e1 e2 => Classical.byContradiction fun hno => hc1 ⟨e, e1, e2, by
        cases x : Nat.testBit s e with
        | false => rfl
        | true => exact absurd (.inl x) hno, fun x => hno (.inr (.inl x)), fun x => hno (.inr (.inr x))⟩
      have hCB : ∀ e, Nat.testBit C e = true → Nat.testBit B e = false → Nat.testBit s e = true := fun e e1 e2 => by
        cases e3 : Nat.testBit s e with
        | true => rfl
        | false =>
          exfalso
          obtain ⟨_, d, d1, d2, d3, d4⟩ := ex_at h hC hB e1 e2
          have heg := bit_lt2 hCl e1
          obtain ⟨w1, _, _, _⟩ := delN (a := C) (e := e) (by omega) (by omega) e1
          have eN : (C : Int) - ((2 ^ e : Nat) : Int) + ((2 ^ d : Nat) : Int) = ((C - 2 ^ e + 2 ^ d : Nat) : Int) := by omega
          rw [eN] at d4
          have hs1 := swI (A := C) (s := s) (e := e) (d := d) (by omega) (by omega) (by omega) (by omega) e1 d3
          rw [e3, if_neg (by decide)] at hs1
          have hne : e ≠ d := fun x => by subst x; rw [e2] at d2; cases d2
          obtain ⟨s1, _, _, _, _⟩ := swapN (a := C) (e := e) (d := d) (by omega) (by omega) (by omega) e1 d3 hne
          have hbd : Nat.testBit (C - 2 ^ e + 2 ^ d) d = true := by rw [← s1, bit_or, decide_eq_true rfl, Bool.or_true]
          rcases hBT d d2 d3 with x | x | x
          · rw [x, if_pos rfl] at hs1
            have := hρi _ d4
            omega
          · subst x
            rw [hsi, if_neg (by decide)] at hs1
            have := hρi _ d4
            rw [hbd, if_pos rfl] at this
            omega
          · subst x
            rw [hsk, if_neg (by decide)] at hs1
            have := hρk _ d4
            rw [hbd, if_pos rfl] at this
            omega
      obtain ⟨_, d, d1, d2, d3, d4⟩ := ex_at h hB hC hBi hCi
      obtain ⟨w1, _, _, _⟩ := delN (a := B) (e := i) (by omega) (by omega) hBi
      have eN : (B : Int) - ((2 ^ i : Nat) : Int) + ((2 ^ d : Nat) : Int) = ((B - 2 ^ i + 2 ^ d : Nat) : Int) := by omega
      rw [eN] at d4
      have hs1 := swI (A := B) (s := s) (e := i) (d := d) (by omega) (by omega) (by omega) (by omega) hBi d3
      rw [hsi, if_neg (by decide), hCB d d2 d3, if_pos rfl] at hs1
      have hne : i ≠ d := fun x => by subst x; rw [hCi] at d2; cases d2
      obtain ⟨s1, _, s3, _, _⟩ := swapN (a := B) (e := i) (d := d) (by omega) (by omega) (by omega) hBi d3 hne
      have hbk : Nat.testBit (B - 2 ^ i + 2 ^ d) k = true := by
        have : Nat.testBit ((B - 2 ^ i) ||| 2 ^ i) k = Nat.testBit B k := by rw [s3]
        rw [bit_or, decide_eq_false hik, Bool.or_false] at this
        rw [← s1, bit_or, this, hBk]; rfl
      have := hρk _ d4
      rw [hbk, if_pos rfl] at this
      omega
theorem rb_mat {g : Int} {m : List Int} (h : basV g m = true) (hg : g ≤ 5) : matV g (rbL g m) = true := by
  have hfm := bas_fam h
  have hf := famV_iff.1 hfm
  have h32 : 2 ^ g.toNat ≤ 32 := Nat.le_trans (Nat.pow_le_pow_right (by omega) (show g.toNat ≤ 5 by omega)) (by decide)
  have hne : m.length ≠ 0 := by
    unfold basV at h
    rw [Bool.and_eq_true, Bool.and_eq_true, Bool.not_eq_true', decide_eq_false_iff_not] at h
    exact h.2.1
  have hin : ∀ {D : Nat}, (D : Int) ∈ m → D < 2 ^ g.toNat := fun {D} hD => by
    have := List.all_eq_true.1 hf.2.1 _ hD
    rw [isSet_range hf.1.1] at this; omega
  have hsp := fun (s : Nat) (hs : s < 2 ^ g.toNat) => rb_spec hfm hne (s := s) (by omega)
  have hfn : fnV g (mkL (rbF m) (2 ^ g.toNat)) = true := mk_fn ⟨hf.1.1, hg⟩ fun s hs => by
    obtain ⟨_, B, _, e⟩ := hsp s hs
    have := popN_le (s &&& B)
    omega
  unfold matV rbL
  rw [Bool.and_eq_true]
  refine ⟨pol_mk hfn ?_ (fun s i hs hi => ?_) (sub_mk hfn fun s i k hs hik hk b1 b2 => ?_), ?_⟩
  · obtain ⟨_, B, _, e⟩ := hsp 0 (Nat.two_pow_pos _)
    rw [Nat.zero_and, pop0] at e
    exact e
  · have hsi : s ||| 2 ^ i < 2 ^ g.toNat := or_lt hs hi
    cases hb : Nat.testBit s i with
    | true => rw [or_bit_same hb]; exact Int.le_refl _
    | false =>
      obtain ⟨_, B, hB, e⟩ := hsp s hs
      have := (hsp _ hsi).1 B hB
      rw [cap_pop (by omega) (by omega) hb] at this
      omega
  · have hi : i < g.toNat := by omega
    have hS : s ||| 2 ^ i < 2 ^ g.toNat := or_lt hs hi
    have hU : s ||| 2 ^ k < 2 ^ g.toNat := or_lt hs hk
    have hO : s ||| 2 ^ i ||| 2 ^ k < 2 ^ g.toNat := or_lt hS hk
    have hk2 : Nat.testBit (s ||| 2 ^ i) k = false := bit_ne (by omega) b2
    obtain ⟨uO, B, hB, eB⟩ := hsp _ hO
    obtain ⟨us, C, hC, eC⟩ := hsp _ hs
    obtain ⟨uS, B1, hB1, eB1⟩ := hsp _ hS
    obtain ⟨uU, B2, hB2, eB2⟩ := hsp _ hU
    have cB := cap_pop (s := s ||| 2 ^ i) (i := k) (B := B) (by omega) (by omega) hk2
    rw [cap_pop (s := s) (i := i) (by omega) (by omega) b1] at cB
    have gS := uS B hB
    have gU := uU B hB
    rw [cap_pop (s := s) (i := i) (by omega) (by omega) b1] at gS
    rw [cap_pop (s := s) (i := k) (by omega) (by omega) b2] at gU
    have gC1 := uS C hC
    have gC2 := uU C hC
    rw [cap_pop (s := s) (i := i) (by omega) (by omega) b1] at gC1
    rw [cap_pop (s := s) (i := k) (by omega) (by omega) b2] at gC2
    have gs := us B hB
    refine Int.not_lt.1 fun hlt => ?_
    obtain ⟨bi, hbi⟩ : ∃ x, (if Nat.testBit B i = true then 1 else 0) = x := ⟨_, rfl⟩
    obtain ⟨bk, hbk⟩ : ∃ x, (if Nat.testBit B k = true then 1 else 0) = x := ⟨_, rfl⟩
    obtain ⟨ci, hci⟩ : ∃ x, (if Nat.testBit C i = true then 1 else 0) = x := ⟨_, rfl⟩
    obtain ⟨ck, hck⟩ : ∃ x, (if Nat.testBit C k = true then 1 else 0) = x := ⟨_, rfl⟩
    rw [hbi] at cB gS
    rw [hbk] at cB gU
    rw [hci] at gC1
    rw [hck] at gC2
    have hBi : Nat.testBit B i = true := by
      cases e : Nat.testBit B i with
      | true => rfl
      | false =>
        rw [e, if_neg (by decide)] at hbi
        omega
    have hBk : Nat.testBit B k = true := by
      cases e : Nat.testBit B k with
      | true => rfl
      | false =>
        rw [e, if_neg (by decide)] at hbk
        omega
    rw [hBi, if_pos rfl] at hbi
    rw [hBk, if_pos rfl] at hbk
    obtain ⟨ρ, hρ⟩ : ∃ ρ : Nat, popN (s &&& C) = ρ := ⟨_, rfl⟩
    have hcap : ∀ x, popN (B &&& x) ≤ 5 := fun x => pop_le5 (n := g.toNat) (by omega) (Nat.lt_of_le_of_lt Nat.and_le_left (hin hB))
    have k1 : rbF m ((s ||| 2 ^ i : Nat) : Int) = (ρ : Int) := by omega
    have k2 : rbF m ((s ||| 2 ^ k : Nat) : Int) = (ρ : Int) := by omega
    refine rb_heart h hg hs hi hk (by omega) b1 b2 (ρ := ρ) (fun D hD => ?_) (fun D hD => ?_) 6 B C hB hC hBi hBk (by omega) hρ (by omega)
    · have := uS D hD
      rw [cap_pop (s := s) (i := i) (by omega) (by omega) b1] at this
      omega
    · have := uU D hD
      rw [cap_pop (s := s) (i := k) (by omega) (by omega) b2] at this
      omega
  · unfold oneV
    rw [List.all_eq_true]
    intro e he
    rw [List.mem_range] at he
    have h2e : 2 ^ e < 2 ^ g.toNat := Nat.pow_lt_pow_right (by omega) he
    rw [Bool.not_eq_true', decide_eq_false_iff_not, mkL_get h2e]
    obtain ⟨_, B, _, eB⟩ := hsp _ h2e
    have := cap_pop (s := 0) (i := e) (B := B) (by omega) (by omega) (Nat.zero_testBit e)
    rw [Nat.zero_or, Nat.zero_and, pop0] at this
    split at this <;> omega
end Go.Proofs.YthoionlldmfpiaaGreat
