import Derived.Test.YtjlpjkiadohkiaaT74
import Derived.Test.YtjlpjkiadohkiaaHs
import Derived.Test.YtjlpjkiadohkiaaT76
set_option linter.unusedSimpArgs false
set_option linter.unusedVariables false
set_option maxHeartbeats 2000000
namespace Go.Proofs.Ytjlpjkiadohkiaa
open Go Go.Ab
attribute [local irreducible] aol
attribute [local irreducible] popN


theorem initS_all : ((List.range 6).all fun p => decide (popN (2 ^ p - 1) = p) && (!Nat.testBit (2 ^ p - 1) p && !Nat.testBit (2 ^ p - 1) (p + 1))) = true := by kernel_rfl
theorem initS {p : Nat} (h : p < 6) : popN (2 ^ p - 1) = p ∧ Nat.testBit (2 ^ p - 1) p = false ∧ Nat.testBit (2 ^ p - 1) (p + 1) = false := by
  have := List.all_eq_true.1 initS_all p (List.mem_range.2 h)
  rw [Bool.and_eq_true, Bool.and_eq_true, decide_eq_true_eq, Bool.not_eq_true', Bool.not_eq_true'] at this
  exact this
theorem sz_iff {v : List Int} (h : szOk v = true) : subV (szN v) (szL v) = concV v := by
  unfold szOk at h
  rw [Bool.and_eq_true] at h
  obtain ⟨hR, hf⟩ := h
  have hR' := hR
  rw [inR_iff] at hR
  have hf' := fnV_iff.1 hf
  obtain ⟨n, hn⟩ : ∃ n : Nat, v.length = n + 1 := ⟨v.length - 1, by omega⟩
  have eN : szN v = (n : Int) := by unfold szN; omega
  have eT : (szN v).toNat = n := by rw [eN, Int.toNat_natCast]
  have hn5 : n ≤ 5 := by omega
  have h32 : 2 ^ n ≤ 32 := Nat.le_trans (Nat.pow_le_pow_right (by omega) hn5) (by decide)
  have hg : ∀ s, s < 2 ^ n → (szL v).getD s 0 = v.getD (popN s) 0 := fun s hs => by
    unfold szL; rw [eT, mkL_get hs, szV, Int.toNat_natCast]
  have hall : (v.all fun x => inR x (-1000) 1000) = true := by
    rw [List.all_eq_true]
    intro x hx
    obtain ⟨p, hp, rfl⟩ := List.getElem_of_mem hx
    have h1 : 2 ^ p - 1 < 2 ^ n := by
      have : 2 ^ p ≤ 2 ^ n := Nat.pow_le_pow_right (by omega) (by omega)
      have := Nat.two_pow_pos p
      omega
    have h2 := hg _ h1
    rw [(initS (p := p) (by omega)).1] at h2
    have h3 := getD_bd hf'.2.2 (2 ^ p - 1)
    rw [h2, List.getD_eq_getElem?_getD, List.getElem?_eq_getElem hp] at h3
    rw [inR_iff]; exact h3
  have hlen := fnV_len hf
  rw [eT] at hlen
  rw [Bool.eq_iff_iff]
  constructor
  · intro hs
    unfold concV
    rw [hR', hall, Bool.true_and, Bool.true_and, List.all_eq_true]
    intro p hp
    rw [List.mem_range] at hp
    have i0 := initS (p := p) (by omega)
    have h1 : 2 ^ p - 1 < 2 ^ n := by
      have : 2 ^ p ≤ 2 ^ n := Nat.pow_le_pow_right (by omega) (by omega)
      have := Nat.two_pow_pos p
      omega
    have hx := sub_lt_at hs (s := 2 ^ p - 1) (i := p) (k := p + 1) (by omega) (by omega) (by omega) i0.2.1 i0.2.2
    unfold excV at hx
    have l1 : 2 ^ p - 1 ||| 2 ^ p < 2 ^ n := or_lt h1 (by omega)
    have l2 : 2 ^ p - 1 ||| 2 ^ (p + 1) < 2 ^ n := or_lt h1 (by omega)
    have l3 : 2 ^ p - 1 ||| 2 ^ p ||| 2 ^ (p + 1) < 2 ^ n := or_lt l1 (by omega)
    rw [hg _ h1, hg _ l1, hg _ l2, hg _ l3, popAdd2 (s := 2 ^ p - 1 ||| 2 ^ p) (by omega) (by omega) (bit_ne (by omega) i0.2.2), popAdd2 (s := 2 ^ p - 1) (b := p) (by omega) (by omega) i0.2.1, popAdd2 (s := 2 ^ p - 1) (b := p + 1) (by omega) (by omega) i0.2.2, i0.1, show p + 1 + 1 = p + 2 from rfl] at hx
    unfold concP
    rw [Bool.not_eq_true', decide_eq_false_iff_not]
    omega
  · intro hc
    unfold concV at hc
    rw [hR', hall, Bool.true_and, Bool.true_and, List.all_eq_true] at hc
    refine sub_of hf fun s i k hs hik hk h1 h2 => ?_
    rw [hlen] at hs
    rw [eT] at hk
    unfold excV
    have l1 : s ||| 2 ^ i < 2 ^ n := or_lt hs (by omega)
    have l2 : s ||| 2 ^ k < 2 ^ n := or_lt hs hk
    have l3 : s ||| 2 ^ i ||| 2 ^ k < 2 ^ n := or_lt l1 hk
    have e3 := popAdd2 (s := s ||| 2 ^ i) (b := k) (by omega) (by omega) (bit_ne (by omega) h2)
    have e1 := popAdd2 (s := s) (b := i) (by omega) (by omega) h1
    have e2 := popAdd2 (s := s) (b := k) (by omega) (by omega) h2
    have hp := popLt hn5 l3
    rw [hg _ hs, hg _ l1, hg _ l2, hg _ l3, e3, e1, e2, show popN s + 1 + 1 = popN s + 2 from rfl]
    have := hc (popN s) (List.mem_range.2 (by omega))
    unfold concP at this
    rw [Bool.not_eq_true', decide_eq_false_iff_not] at this
    omega

theorem pnN_or {g : List Int} {s e k : Nat} (h : Nat.testBit s e = false) : ∀ {i : Nat}, pnN g (s ||| 2 ^ e) k i = pnN g s k i + if e < i ∧ g.getD e 0 = (k : Int) then 1 else 0
  | 0 => by simp [pnN]
  | i + 1 => by
    have ih := pnN_or (g := g) (k := k) h (i := i)
    unfold pnN
    rw [ih, bit_or]
    by_cases e1 : e = i
    · rw [e1] at h ⊢
      have h1 : ¬ (i < i ∧ g.getD i 0 = (k : Int)) := by omega
      rw [if_neg h1, Nat.add_zero, h, decide_eq_true rfl]
      by_cases hg : g.getD i 0 = (k : Int)
      · rw [if_pos ⟨rfl, hg⟩, if_neg (by simp), if_pos ⟨by omega, hg⟩]
      · rw [if_neg (fun x => hg x.2), if_neg (fun x => hg x.2), if_neg (fun x => hg x.2)]
    · have h1 : (e < i + 1 ∧ g.getD e 0 = (k : Int)) ↔ (e < i ∧ g.getD e 0 = (k : Int)) := by omega
      rw [decide_eq_false e1, Bool.or_false]
      simp only [h1]
      split <;> omega
theorem pnN_zero (g : List Int) (k : Nat) : ∀ i, pnN g 0 k i = 0
  | 0 => rfl
  | i + 1 => by unfold pnN; rw [pnN_zero g k i, Nat.zero_testBit]; rfl
theorem pn_ex {g m : List Int} {s i k : Nat} (hm : (m.all fun x => inR x 0 5) = true) (hi : i < g.length) (hk : k < g.length) (hik : i ≠ k) (h1 : Nat.testBit s i = false) (h2 : Nat.testBit s k = false) :
    ∀ j, j ≤ m.length → pnX g m (s ||| 2 ^ i ||| 2 ^ k) j + pnX g m s j ≤ pnX g m (s ||| 2 ^ i) j + pnX g m (s ||| 2 ^ k) j
  | 0, _ => by simp [pnX]
  | j + 1, hj => by
    have ih := pn_ex hm hi hk hik h1 h2 j (by omega)
    have hw := getD_all hm (k := j) (by omega)
    rw [inR_iff] at hw
    unfold pnX pnM
    rw [pnN_or (bit_ne hik h2), pnN_or h1, pnN_or h2]
    by_cases e1 : g.getD i 0 = (j : Int) <;> by_cases e2 : g.getD k 0 = (j : Int) <;> simp only [e1, e2, hi, hk, and_self, and_true, and_false, if_true, if_false] <;> omega
theorem pn_inc {g m : List Int} {s i : Nat} (h1 : Nat.testBit s i = false) : ∀ j, pnX g m s j ≤ pnX g m (s ||| 2 ^ i) j
  | 0 => by simp [pnX]
  | j + 1 => by
    have ih := pn_inc (g := g) (m := m) h1 j
    unfold pnX pnM
    rw [pnN_or h1]
    by_cases e1 : i < g.length ∧ g.getD i 0 = (j : Int) <;> simp only [e1, and_self, if_true, if_false] <;> omega
theorem pn_zero {g m : List Int} (hm : (m.all fun x => inR x 0 5) = true) : ∀ j, j ≤ m.length → pnX g m 0 j = 0
  | 0, _ => rfl
  | j + 1, hj => by
    have ih := pn_zero (g := g) hm j (by omega)
    have hw := getD_all hm (k := j) (by omega)
    rw [inR_iff] at hw
    unfold pnX pnM
    rw [ih, pnN_zero]
    simp only [Int.natCast_zero]
    split <;> omega
theorem pn_one {g m : List Int} {e : Nat} (hm : (m.all fun x => inR x 0 5) = true) : ∀ j, j ≤ m.length → pnX g m (2 ^ e) j ≤ (if g.getD e 0 < (j : Int) ∧ 0 ≤ g.getD e 0 then 1 else 0)
  | 0, _ => by unfold pnX; split <;> omega
  | j + 1, hj => by
    have ih := pn_one (g := g) (e := e) hm j (by omega)
    have hw := getD_all hm (k := j) (by omega)
    rw [inR_iff] at hw
    unfold pnX pnM
    have e0 : pnN g (2 ^ e) j g.length = if e < g.length ∧ g.getD e 0 = (j : Int) then 1 else 0 := by
      have := pnN_or (g := g) (s := 0) (e := e) (k := j) (Nat.zero_testBit e) (i := g.length)
      rw [Nat.zero_or, pnN_zero, Nat.zero_add] at this; exact this
    rw [e0]
    by_cases e1 : e < g.length ∧ g.getD e 0 = (j : Int)
    · rw [if_pos e1]
      have : ¬ (g.getD e 0 < (j : Int) ∧ 0 ≤ g.getD e 0) := by omega
      rw [if_neg this] at ih
      have : g.getD e 0 < ((j + 1 : Nat) : Int) ∧ 0 ≤ g.getD e 0 := by omega
      rw [if_pos this]
      split <;> omega
    · rw [if_neg e1]
      split at ih <;> (split <;> (split <;> omega))
theorem pn_mat {g m : List Int} (h : pnOk g m = true) : matV (g.length : Int) (pnL g m) = true := by
  have hf := pn_fn h
  obtain ⟨⟨h1, h2⟩, h3, h4⟩ := pnOk_iff.1 h
  have eL : pnL g m = mkL (pnV g m) (2 ^ ((g.length : Nat) : Int).toNat) := by rw [Int.toNat_natCast]; rfl
  unfold matV
  rw [Bool.and_eq_true]
  rw [eL] at hf ⊢
  refine ⟨pol_mk hf ?_ (fun s i hs hi => ?_) (sub_mk hf fun s i k hs hik hk b1 b2 => ?_), ?_⟩
  · exact pn_zero h4 _ (Nat.le_refl _)
  · unfold pnV; simp only [Int.toNat_natCast]
    cases hb : Nat.testBit s i with
    | true => rw [or_bit_same hb]; exact Int.le_refl _
    | false => exact pn_inc hb _
  · rw [Int.toNat_natCast] at hk
    unfold pnV; simp only [Int.toNat_natCast]
    exact pn_ex h4 (by omega) hk (by omega) b1 b2 _ (Nat.le_refl _)
  · unfold oneV
    rw [List.all_eq_true]
    intro e he
    rw [List.mem_range] at he
    rw [Bool.not_eq_true', decide_eq_false_iff_not, mkL_get (Nat.pow_lt_pow_right (by omega) he)]
    have := pn_one (g := g) (m := m) (e := e) h4 _ (Nat.le_refl _)
    unfold pnV
    rw [Int.toNat_natCast]
    split at this <;> omega

theorem md_ex {w : List Int} {c : Int} {s i k : Nat} (hik : i ≠ k) (h1 : Nat.testBit s i = false) (h2 : Nat.testBit s k = false) :
    mdV w c ((s ||| 2 ^ i ||| 2 ^ k : Nat) : Int) + mdV w c (s : Int) = mdV w c ((s ||| 2 ^ i : Nat) : Int) + mdV w c ((s ||| 2 ^ k : Nat) : Int) := by
  unfold mdV
  simp only [Int.toNat_natCast]
  rw [wV_or (bit_ne hik h2), wV_or h1, wV_or h2]
  omega
theorem md_mod {w : List Int} {c : Int} (h : mdB w c = true) : modV (w.length : Int) (mdL w c) = true := by
  unfold mdB at h
  rw [Bool.and_eq_true] at h
  have hf := h.2
  have hng := ng_fn hf
  have eL : mdL w c = mkL (mdV w c) (2 ^ ((w.length : Nat) : Int).toNat) := by rw [Int.toNat_natCast]; rfl
  have hs : subV (w.length : Int) (mdL w c) = true := by
    rw [eL] at hf ⊢
    exact sub_mk hf fun s i k _ hik _ b1 b2 => Int.le_of_eq (md_ex (by omega) b1 b2)
  have hs2 : subV (w.length : Int) (ngL (w.length : Int) (mdL w c)) = true := by
    refine sub_mk hng fun s i k hs hik hk b1 b2 => ?_
    unfold ngV
    rw [Int.toNat_natCast] at hs hk
    have l1 : s ||| 2 ^ i < 2 ^ w.length := or_lt hs (by omega)
    have l2 : s ||| 2 ^ k < 2 ^ w.length := or_lt hs hk
    have l3 : s ||| 2 ^ i ||| 2 ^ k < 2 ^ w.length := or_lt l1 hk
    simp only [Int.toNat_natCast]
    unfold mdL
    rw [mkL_get hs, mkL_get l1, mkL_get l2, mkL_get l3]
    have := md_ex (w := w) (c := c) (s := s) (i := i) (k := k) (by omega) b1 b2
    omega
  unfold modV supV
  rw [hs, hs2, hf]; rfl
end Go.Proofs.Ytjlpjkiadohkiaa
