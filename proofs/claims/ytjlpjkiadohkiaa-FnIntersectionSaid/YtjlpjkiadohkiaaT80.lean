import Derived.Test.YtjlpjkiadohkiaaT34
import Derived.Test.YtjlpjkiadohkiaaHs
import Derived.Test.YtjlpjkiadohkiaaT30
set_option linter.unusedSimpArgs false
set_option linter.unusedVariables false
set_option maxHeartbeats 2000000
namespace Go.Proofs.Ytjlpjkiadohkiaa
open Go Go.Ab
attribute [local irreducible] aol
attribute [local irreducible] popN


def PolF (n : Nat) (f : Nat → Int) : Prop :=
  f 0 = 0 ∧ (∀ s t, s < 2 ^ n → t < 2 ^ n → f (s ||| t) + f (s &&& t) ≤ f s + f t) ∧ ∀ s t, t < 2 ^ n → s &&& t = s → f s ≤ f t
theorem orT {n s : Nat} (h : s < 2 ^ n) : s + 2 ^ n = s ||| 2 ^ n := by
  have := Nat.two_pow_add_eq_or_of_lt h 1
  rw [Nat.mul_one] at this
  rw [Nat.add_comm, this, Nat.or_comm]
theorem bitT {n s : Nat} (h : s < 2 ^ n) (j : Nat) : Nat.testBit (s + 2 ^ n) j = (Nat.testBit s j || decide (n = j)) := by
  rw [orT h, Nat.testBit_or, Nat.testBit_two_pow]
theorem bit_hi {n s j : Nat} (h : s < 2 ^ n) (hj : n ≤ j) : Nat.testBit s j = false :=
  Nat.testBit_lt_two_pow (Nat.lt_of_lt_of_le h (Nat.pow_le_pow_right (by omega) hj))
theorem andL_lt {n s t : Nat} (hs : s < 2 ^ n) : s &&& t < 2 ^ n := Nat.lt_of_le_of_lt Nat.and_le_left hs
theorem or11 {n s t : Nat} (hs : s < 2 ^ n) (ht : t < 2 ^ n) : (s + 2 ^ n) ||| (t + 2 ^ n) = (s ||| t) + 2 ^ n := by
  apply Nat.eq_of_testBit_eq; intro j
  rw [Nat.testBit_or, bitT hs, bitT ht, bitT (Nat.or_lt_two_pow hs ht), Nat.testBit_or]
  cases Nat.testBit s j <;> cases Nat.testBit t j <;> cases decide (n = j) <;> rfl
theorem or10 {n s t : Nat} (hs : s < 2 ^ n) (ht : t < 2 ^ n) : (s + 2 ^ n) ||| t = (s ||| t) + 2 ^ n := by
  apply Nat.eq_of_testBit_eq; intro j
  rw [Nat.testBit_or, bitT hs, bitT (Nat.or_lt_two_pow hs ht), Nat.testBit_or]
  cases Nat.testBit s j <;> cases Nat.testBit t j <;> cases decide (n = j) <;> rfl
theorem and11 {n s t : Nat} (hs : s < 2 ^ n) (ht : t < 2 ^ n) : (s + 2 ^ n) &&& (t + 2 ^ n) = (s &&& t) + 2 ^ n := by
  apply Nat.eq_of_testBit_eq; intro j
  rw [Nat.testBit_and, bitT hs, bitT ht, bitT (andL_lt hs), Nat.testBit_and]
  cases Nat.testBit s j <;> cases Nat.testBit t j <;> cases decide (n = j) <;> rfl
theorem and10 {n s t : Nat} (hs : s < 2 ^ n) (ht : t < 2 ^ n) : (s + 2 ^ n) &&& t = s &&& t := by
  apply Nat.eq_of_testBit_eq; intro j
  rw [Nat.testBit_and, bitT hs, Nat.testBit_and]
  by_cases e : n = j
  · subst e; rw [bit_hi ht (Nat.le_refl _), Bool.and_false, Bool.and_false]
  · rw [decide_eq_false e, Bool.or_false]
theorem cplN {n : Nat} {s : Nat} (hs : s < 2 ^ n) (j : Nat) : Nat.testBit (2 ^ n - 1 - s) j = (decide (j < n) && !Nat.testBit s j) := by
  have := Nat.testBit_two_pow_sub_succ hs j
  rw [Nat.add_comm, ← Nat.sub_sub] at this; exact this
theorem cpl_lt {n s : Nat} : 2 ^ n - 1 - s < 2 ^ n := by have := Nat.two_pow_pos n; omega
theorem cpl_or {n s t : Nat} (hs : s < 2 ^ n) (ht : t < 2 ^ n) : (2 ^ n - 1 - s) &&& (2 ^ n - 1 - t) = 2 ^ n - 1 - (s ||| t) := by
  apply Nat.eq_of_testBit_eq; intro j
  rw [Nat.testBit_and, cplN hs, cplN ht, cplN (Nat.or_lt_two_pow hs ht), Nat.testBit_or]
  cases Nat.testBit s j <;> cases Nat.testBit t j <;> cases decide (j < n) <;> rfl
theorem cpl_and {n s t : Nat} (hs : s < 2 ^ n) (ht : t < 2 ^ n) : (2 ^ n - 1 - s) ||| (2 ^ n - 1 - t) = 2 ^ n - 1 - (s &&& t) := by
  apply Nat.eq_of_testBit_eq; intro j
  rw [Nat.testBit_or, cplN hs, cplN ht, cplN (andL_lt hs), Nat.testBit_and]
  cases Nat.testBit s j <;> cases Nat.testBit t j <;> cases decide (j < n) <;> rfl
def redF (n : Nat) (f : Nat → Int) (t : Int) (s : Nat) : Int := min (f s) (f (s + 2 ^ n) - t)
theorem lt_succ {n s : Nat} (h : s < 2 ^ n) : s < 2 ^ (n + 1) ∧ s + 2 ^ n < 2 ^ (n + 1) := by rw [Nat.pow_succ]; omega
theorem red_pol {n : Nat} {f : Nat → Int} (h : PolF (n + 1) f) {t : Int} (ht : 0 ≤ t) (ht2 : t ≤ f (2 ^ n)) : PolF n (redF n f t) := by
  obtain ⟨h0, h1, h2⟩ := h
  refine ⟨?_, fun s u hs hu => ?_, fun s u hu hsu => ?_⟩
  · unfold redF; rw [Nat.zero_add, h0]; omega
  · have a1 := h1 s u (lt_succ hs).1 (lt_succ hu).1
    have a2 := h1 (s + 2 ^ n) u (lt_succ hs).2 (lt_succ hu).1
    have a3 := h1 (u + 2 ^ n) s (lt_succ hu).2 (lt_succ hs).1
    have a4 := h1 (s + 2 ^ n) (u + 2 ^ n) (lt_succ hs).2 (lt_succ hu).2
    rw [or10 hs hu, and10 hs hu] at a2
    rw [or10 hu hs, and10 hu hs, Nat.or_comm, Nat.and_comm] at a3
    rw [or11 hs hu, and11 hs hu] at a4
    unfold redF
    omega
  · have hs : s < 2 ^ n := by rw [← hsu, Nat.and_comm]; exact andL_lt hu
    have a1 := h2 s u (lt_succ hu).1 hsu
    have a2 := h2 (s + 2 ^ n) (u + 2 ^ n) (lt_succ hu).2 (by rw [and11 hs hu, hsu])
    unfold redF
    omega
theorem arg_min (m : Nat → Int) : ∀ k : Nat, 0 < k → ∃ a, a < k ∧ ∀ b, b < k → m a ≤ m b
  | 0, h => by omega
  | 1, _ => ⟨0, by omega, fun b hb => by obtain rfl : b = 0 := by omega
                                         exact Int.le_refl _⟩
  | k + 2, _ => by
    obtain ⟨a, ha, hm⟩ := arg_min m (k + 1) (by omega)
    by_cases h : m a ≤ m (k + 1)
    · refine ⟨a, by omega, fun b hb => ?_⟩
      by_cases e : b = k + 1
      · rw [e]; exact h
      · exact hm b (by omega)
    · refine ⟨k + 1, by omega, fun b hb => ?_⟩
      by_cases e : b = k + 1
      · rw [e]; exact Int.le_refl _
      · have := hm b (by omega); omega
theorem wV_cong {x y : List Int} {s u : Nat} : ∀ {k : Nat}, (∀ i, i < k → Nat.testBit s i = Nat.testBit u i ∧ x.getD i 0 = y.getD i 0) → wV x s k = wV y u k
  | 0, _ => rfl
  | k + 1, h => by
    have h1 := wV_cong (k := k) fun i hi => h i (by omega)
    obtain ⟨h2, h3⟩ := h k (by omega)
    unfold wV
    rw [h1, h2, h3]
theorem pol_inter : ∀ (n : Nat) (f g : Nat → Int) (k : Int), PolF n f → PolF n g → (∀ A, A < 2 ^ n → k ≤ f A + g (2 ^ n - 1 - A)) →
    ∃ x : List Int, x.length = n ∧ (∀ i, i < n → 0 ≤ x.getD i 0) ∧ (∀ s, s < 2 ^ n → wV x s n ≤ f s) ∧ (∀ s, s < 2 ^ n → wV x s n ≤ g s) ∧ k ≤ wV x (2 ^ n - 1) n
  | 0, f, g, k, hf, hg, h => by
    refine ⟨[], rfl, fun i hi => by omega, fun s hs => ?_, fun s hs => ?_, ?_⟩
    · obtain rfl : s = 0 := by simpa using hs
      rw [hf.1]; exact Int.le_refl _
    · obtain rfl : s = 0 := by simpa using hs
      rw [hg.1]; exact Int.le_refl _
    · have := h 0 (by simp)
      simp only [Nat.pow_zero, Nat.sub_self, hf.1, hg.1] at this
      unfold wV; omega
  | n + 1, f, g, k, hf, hg, h => by
    have hT := Nat.two_pow_pos n
    have hA : ∀ A, A < 2 ^ n → k ≤ f A + g (2 ^ n - 1 - A + 2 ^ n) := fun A hA => by
      have := h A (lt_succ hA).1
      rwa [show 2 ^ (n + 1) - 1 - A = 2 ^ n - 1 - A + 2 ^ n by rw [Nat.pow_succ]; omega] at this
    have hB : ∀ A, A < 2 ^ n → k ≤ f (A + 2 ^ n) + g (2 ^ n - 1 - A) := fun A hA => by
      have := h (A + 2 ^ n) (lt_succ hA).2
      rwa [show 2 ^ (n + 1) - 1 - (A + 2 ^ n) = 2 ^ n - 1 - A by rw [Nat.pow_succ]; omega] at this
    obtain ⟨A0, hA0, hm⟩ := arg_min (fun A => f A + g (2 ^ n - 1 - A)) (2 ^ n) hT
    obtain ⟨t, ht, ht2⟩ : ∃ t : Int, 0 ≤ t ∧ (t = 0 ∨ t = k - (f A0 + g (2 ^ n - 1 - A0))) ∧ k - (f A0 + g (2 ^ n - 1 - A0)) ≤ t := by
      by_cases e : 0 ≤ k - (f A0 + g (2 ^ n - 1 - A0))
      · exact ⟨_, e, .inr rfl, Int.le_refl _⟩
      · exact ⟨0, Int.le_refl _, .inl rfl, by omega⟩
    have z0 : (0 : Nat) < 2 ^ n := hT
    have fT : 0 ≤ f (2 ^ n) := by have := hf.2.2 0 (2 ^ n) (by rw [Nat.pow_succ]; omega) (Nat.zero_and _); rw [hf.1] at this; exact this
    have gT : 0 ≤ g (2 ^ n) := by have := hg.2.2 0 (2 ^ n) (by rw [Nat.pow_succ]; omega) (Nat.zero_and _); rw [hg.1] at this; exact this
    have htf : t ≤ f (2 ^ n) := by
      have h1 := hf.2.1 (0 + 2 ^ n) A0 (lt_succ z0).2 (lt_succ hA0).1
      rw [or10 z0 hA0, and10 z0 hA0, Nat.zero_or, Nat.zero_and, Nat.zero_add, hf.1] at h1
      have h2 := hB A0 hA0
      omega
    have htg : t ≤ g (2 ^ n) := by
      have h1 := hg.2.1 (0 + 2 ^ n) (2 ^ n - 1 - A0) (lt_succ z0).2 (lt_succ cpl_lt).1
      rw [or10 z0 cpl_lt, and10 z0 cpl_lt, Nat.zero_or, Nat.zero_and, Nat.zero_add, hg.1] at h1
      have h2 := hA A0 hA0
      omega
    have hk : ∀ A, A < 2 ^ n → k - t ≤ redF n f t A + redF n g t (2 ^ n - 1 - A) := fun A hAl => by
      have b1 := hA A hAl
      have b2 := hB A hAl
      have b3 : f A0 + g (2 ^ n - 1 - A0) ≤ f A + g (2 ^ n - 1 - A) := hm A hAl
      have b4 : k + t ≤ f (A + 2 ^ n) + g (2 ^ n - 1 - A + 2 ^ n) := by
        have m1 := hg.2.2 (2 ^ n - 1 - A) (2 ^ n - 1 - A + 2 ^ n) (lt_succ cpl_lt).2 (by rw [Nat.and_comm, and10 cpl_lt cpl_lt, Nat.and_self])
        rcases ht2.1 with e | e
        · omega
        · have c1 := hf.2.1 (A + 2 ^ n) A0 (lt_succ hAl).2 (lt_succ hA0).1
          have c2 := hg.2.1 (2 ^ n - 1 - A + 2 ^ n) (2 ^ n - 1 - A0) (lt_succ cpl_lt).2 (lt_succ cpl_lt).1
          rw [or10 hAl hA0, and10 hAl hA0] at c1
          rw [or10 cpl_lt cpl_lt, and10 cpl_lt cpl_lt, cpl_or hAl hA0, cpl_and hAl hA0] at c2
          have c3 := hB (A ||| A0) (Nat.or_lt_two_pow hAl hA0)
          have c4 := hA (A &&& A0) (andL_lt hAl)
          omega
      unfold redF
      omega
    obtain ⟨x, hl, hx0, hxf, hxg, hxk⟩ := pol_inter n _ _ (k - t) (red_pol hf ht htf) (red_pol hg ht htg) hk
    have get1 : ∀ i, i < n → (x ++ [t]).getD i 0 = x.getD i 0 := fun i hi => by
      rw [List.getD_eq_getElem?_getD, List.getElem?_append_left (by omega), ← List.getD_eq_getElem?_getD]
    have get2 : (x ++ [t]).getD n 0 = t := by
      rw [List.getD_eq_getElem?_getD, List.getElem?_append_right (by omega), hl, Nat.sub_self]; rfl
    have w0 : ∀ s, s < 2 ^ n → wV (x ++ [t]) s (n + 1) = wV x s n := fun s hs => by
      rw [wV_0 (bit_hi hs (Nat.le_refl _))]
      exact wV_cong fun i hi => ⟨rfl, get1 i hi⟩
    have w1 : ∀ s, s < 2 ^ n → wV (x ++ [t]) (s + 2 ^ n) (n + 1) = wV x s n + t := fun s hs => by
      rw [wV_1 (by rw [bitT hs, decide_eq_true rfl, Bool.or_true]), get2]
      congr 1
      exact wV_cong fun i hi => ⟨by rw [bitT hs, decide_eq_false (by omega), Bool.or_false], get1 i hi⟩
    have cse : ∀ {p : Nat → Prop}, (∀ s, s < 2 ^ n → p s) → (∀ s, s < 2 ^ n → p (s + 2 ^ n)) → ∀ s, s < 2 ^ (n + 1) → p s := fun h1 h2 s hs => by
      by_cases e : s < 2 ^ n
      · exact h1 s e
      · have := h2 (s - 2 ^ n) (by rw [Nat.pow_succ] at hs; omega)
        rwa [show s - 2 ^ n + 2 ^ n = s by omega] at this
    refine ⟨x ++ [t], by rw [List.length_append, hl]; rfl, fun i hi => ?_, cse (fun s hs => ?_) (fun s hs => ?_), cse (fun s hs => ?_) (fun s hs => ?_), ?_⟩
    · by_cases e : i = n
      · rw [e, get2]; exact ht
      · rw [get1 i (by omega)]; exact hx0 i (by omega)
    · rw [w0 s hs]; have := hxf s hs; unfold redF at this; omega
    · rw [w1 s hs]; have := hxf s hs; unfold redF at this; omega
    · rw [w0 s hs]; have := hxg s hs; unfold redF at this; omega
    · rw [w1 s hs]; have := hxg s hs; unfold redF at this; omega
    · rw [show 2 ^ (n + 1) - 1 = 2 ^ n - 1 + 2 ^ n by rw [Nat.pow_succ]; omega, w1 _ (by omega)]
      omega
end Go.Proofs.Ytjlpjkiadohkiaa
