import Derived.Test.YtjlpjkiadohkiaaT52
import Derived.Test.YtjlpjkiadohkiaaT24
set_option linter.unusedSimpArgs false
set_option linter.unusedVariables false
set_option maxHeartbeats 2000000
namespace Go.Proofs.Ytjlpjkiadohkiaa
open Go Go.Ab
attribute [local irreducible] aol
attribute [local irreducible] popN


theorem cntP_or {p q : Nat → Bool} : ∀ k : Nat, cntP p k + cntP q k = cntP (fun j => p j || q j) k + cntP (fun j => p j && q j) k
  | 0 => rfl
  | k + 1 => by
    have ih := cntP_or (p := p) (q := q) k
    show cntP p k + (if p k then 1 else 0) + (cntP q k + (if q k then 1 else 0)) = cntP _ k + (if (p k || q k) then 1 else 0) + (cntP _ k + (if (p k && q k) then 1 else 0))
    cases p k <;> cases q k <;> simp <;> omega
theorem cntP_one {r : Nat → Bool} : ∀ {k : Nat}, (∀ s t, s < k → t < k → r s = true → r t = true → s = t) → cntP r k ≤ 1
  | 0, _ => by simp [cntP]
  | k + 1, h => by
    cases hr : r k with
    | false => rw [cntP_0 hr]; exact cntP_one fun s t h1 h2 => h s t (by omega) (by omega)
    | true =>
      rw [cntP_1 hr, cntP_zero fun j hj => Bool.eq_false_iff.2 fun h' => by
        have := h j k (by omega) (by omega) h' hr
        omega]
      exact Nat.le_refl _
theorem cntP_add (p : Nat → Bool) (m : Nat) : ∀ k : Nat, cntP p (m + k) = cntP p m + cntP (fun j => p (m + j)) k
  | 0 => by simp [cntP]
  | k + 1 => by
    have ih := cntP_add p m k
    show cntP p (m + k) + (if p (m + k) then 1 else 0) = cntP p m + (cntP _ k + (if p (m + k) then 1 else 0))
    omega
theorem cntP_congr {p q : Nat → Bool} : ∀ {k : Nat}, (∀ j, j < k → p j = q j) → cntP p k = cntP q k
  | 0, _ => rfl
  | k + 1, h => by
    show cntP p k + (if p k then 1 else 0) = cntP q k + (if q k then 1 else 0)
    rw [h k (by omega), cntP_congr fun j hj => h j (by omega)]
def lamN (n : Nat) (p : Nat → Bool) : Prop := ∀ a b, a < 2 ^ n → b < 2 ^ n → p a = true → p b = true → a &&& b = 0 ∨ a &&& b = a ∨ a &&& b = b
def posP (p : Nat → Bool) (s : Nat) : Bool := decide (0 < s) && p s
theorem or_add {n s : Nat} (h : s < 2 ^ n) : 2 ^ n + s = s ||| 2 ^ n := by
  rw [Nat.or_comm]; exact Nat.two_pow_add_eq_or_of_lt h 1 |> fun e => by simpa using e
/-- Laminar sets of n elements that are not empty: at most 2n - 1. -/
theorem lam_count : ∀ (n : Nat) (p : Nat → Bool), lamN (n + 1) p → cntP (posP p) (2 ^ (n + 1)) ≤ 2 * n + 1
  | 0, p, _ => by
    show cntP (posP p) (1 + 1) ≤ 1
    have : cntP (posP p) 1 = 0 := cntP_zero fun j hj => by obtain rfl : j = 0 := by omega
                                                           rfl
    show cntP (posP p) 1 + (if posP p 1 then 1 else 0) ≤ 1
    rw [this]; split <;> omega
  | n + 1, p, h => by
    have hN : 2 ^ (n + 2) = 2 ^ (n + 1) + 2 ^ (n + 1) := by rw [Nat.pow_succ 2 (n + 1)]; omega
    have hpos : 0 < 2 ^ (n + 1) := Nat.two_pow_pos _
    generalize hM : 2 ^ (n + 1) = M at hN hpos
    let q : Nat → Bool := fun s => p s || p (s ||| M)
    have bitM : ∀ s, s < M → Nat.testBit s (n + 1) = false := fun s hs => Nat.testBit_lt_two_pow (by rw [hM]; exact hs)
    have ltor : ∀ s, s < M → s ||| M < 2 ^ (n + 2) := fun s hs => by rw [← hM] at hs ⊢; exact Nat.or_lt_two_pow (Nat.lt_trans hs (Nat.pow_lt_pow_right (by omega) (by omega))) (Nat.pow_lt_pow_right (by omega) (by omega))
    have ltM : ∀ s, s < M → s < 2 ^ (n + 2) := fun s hs => by omega
    have land : ∀ a b, a < M → b < M → (a ||| M) &&& (b ||| M) = (a &&& b) ||| M ∧ a &&& (b ||| M) = a &&& b ∧ (a ||| M) &&& b = a &&& b := fun a b ha hb => by
      refine ⟨?_, ?_, ?_⟩ <;> apply Nat.eq_of_testBit_eq <;> intro e <;> simp only [Nat.testBit_and, Nat.testBit_or] <;> rw [← hM, Nat.testBit_two_pow]
      · cases Nat.testBit a e <;> cases Nat.testBit b e <;> simp
      · by_cases he : n + 1 = e
        · subst he; rw [bitM a ha]; rfl
        · simp [he]
      · by_cases he : n + 1 = e
        · subst he; rw [bitM b hb]; simp
        · simp [he]
    have orinj : ∀ a b, a < M → b < M → a ||| M = b ||| M → a = b := fun a b ha hb e => by
      apply Nat.eq_of_testBit_eq
      intro i
      by_cases he : n + 1 = i
      · subst he; rw [bitM a ha, bitM b hb]
      · have := congrArg (fun x => Nat.testBit x i) e
        simp only [Nat.testBit_or] at this
        rw [← hM, Nat.testBit_two_pow] at this
        simpa [he] using this
    have orne : ∀ a, a < M → ∀ b, b < M → ¬ (a ||| M = b) := fun a ha b hb e => by
      have := congrArg (fun x => Nat.testBit x (n + 1)) e
      simp only [Nat.testBit_or] at this
      rw [bitM b hb, ← hM, Nat.testBit_two_pow] at this
      simp at this
    -- the sets without the last element are laminar
    have hq : lamN (n + 1) q := fun a b ha hb h1 h2 => by
      rw [hM] at ha hb
      obtain ⟨l1, l2, l3⟩ := land a b ha hb
      simp only [q, Bool.or_eq_true] at h1 h2
      rcases h1 with h1 | h1 <;> rcases h2 with h2 | h2
      · exact h a b (ltM a ha) (ltM b hb) h1 h2
      · have := h a (b ||| M) (ltM a ha) (ltor b hb) h1 h2
        rw [l2] at this
        rcases this with e | e | e
        · exact .inl e
        · exact .inr (.inl e)
        · exact absurd e.symm (orne b hb (a &&& b) (Nat.lt_of_le_of_lt Nat.and_le_left ha))
      · have := h (a ||| M) b (ltor a ha) (ltM b hb) h1 h2
        rw [l3] at this
        rcases this with e | e | e
        · exact .inl e
        · exact absurd e.symm (orne a ha (a &&& b) (Nat.lt_of_le_of_lt Nat.and_le_left ha))
        · exact .inr (.inr e)
      · have := h (a ||| M) (b ||| M) (ltor a ha) (ltor b hb) h1 h2
        rw [l1] at this
        have hl := Nat.lt_of_le_of_lt (Nat.and_le_left (n := a) (m := b)) ha
        rcases this with e | e | e
        · exfalso
          have : M ≤ (a &&& b) ||| M := Nat.right_le_or
          omega
        · exact .inr (.inl (orinj _ _ hl ha e))
        · exact .inr (.inr (orinj _ _ hl hb e))
    have ih := lam_count n q hq
    -- how they are counted
    have e1 : cntP (posP p) (2 ^ (n + 2)) = cntP (posP p) M + cntP (fun j => p (j ||| M)) M := by
      rw [hN, cntP_add]
      congr 1
      refine cntP_congr fun j hj => ?_
      have : M + j = j ||| M := by rw [← hM] at hj ⊢; exact or_add hj
      simp only [posP]
      rw [this, decide_eq_true (show 0 < j ||| M from Nat.lt_of_lt_of_le hpos Nat.right_le_or)]; rfl
    have e2 : cntP (fun j => p (j ||| M)) M ≤ cntP (posP fun j => p (j ||| M)) M + 1 := by
      obtain ⟨m, hm⟩ : ∃ m, M = 1 + m := ⟨M - 1, by omega⟩
      rw [hm, cntP_add _ 1 m, cntP_add _ 1 m]
      have h0 : cntP (posP fun j => p (j ||| (1 + m))) 1 = 0 := cntP_zero fun j hj => by obtain rfl : j = 0 := by omega
                                                                                         rfl
      have h1 : cntP (fun j => p (j ||| (1 + m))) 1 ≤ 1 := cntP_le _ 1
      have h2 : cntP (fun j => posP (fun j => p (j ||| (1 + m))) (1 + j)) m = cntP (fun j => p ((1 + j) ||| (1 + m))) m := cntP_congr fun j _ => by
        simp only [posP]; rw [decide_eq_true (by omega)]; rfl
      rw [h0, h2]; omega
    have e3 := cntP_or (p := posP p) (q := posP fun j => p (j ||| M)) M
    have e4 : cntP (fun j => posP p j || posP (fun j => p (j ||| M)) j) M = cntP (posP q) M := cntP_congr fun j _ => by
      simp only [posP, q]; cases decide (0 < j) <;> rfl
    have e5 : cntP (fun j => posP p j && posP (fun j => p (j ||| M)) j) M ≤ 1 := by
      refine cntP_one fun s t hs ht h1 h2 => ?_
      simp only [posP, Bool.and_eq_true, decide_eq_true_eq] at h1 h2
      -- s and t both with and without the last element: one lies within the other
      have key : ∀ s t, s < M → t < M → 0 < s → p s = true → p (s ||| M) = true → p t = true → s &&& t = s → s = t := fun s t hs ht h0 p1 p2 p3 e => by
        have := h (s ||| M) t (ltor s hs) (ltM t ht) p2 p3
        rw [(land s t hs ht).2.2, e] at this
        rcases this with e | e | e
        · omega
        · exact absurd e.symm (orne s hs s hs)
        · exact e
      have := h s t (ltM s hs) (ltM t ht) h1.1.2 h2.1.2
      rcases this with e | e | e
      · exfalso
        have := h (s ||| M) (t ||| M) (ltor s hs) (ltor t ht) h1.2.2 h2.2.2
        rw [(land s t hs ht).1, e, Nat.zero_or] at this
        rcases this with e | e | e
        · omega
        · have := orinj 0 s hpos hs (by rw [Nat.zero_or]; exact e); omega
        · have := orinj 0 t hpos ht (by rw [Nat.zero_or]; exact e); omega
      · exact key s t hs ht h1.1.1 h1.1.2 h1.2.2 h2.1.2 e
      · exact (key t s ht hs h2.1.1 h2.1.2 h2.2.2 h1.1.2 (by rw [Nat.and_comm]; exact e)).symm
    rw [e1]
    rw [hM] at ih
    rw [e4] at e3
    omega
end Go.Proofs.Ytjlpjkiadohkiaa
