import Derived.Test.YthoionlldmfpiaaGreatT30
import Derived.Test.YthoionlldmfpiaaGreatHs
import Derived.Test.YthoionlldmfpiaaGreatAbJ
set_option linter.unusedSimpArgs false
set_option linter.unusedVariables false
set_option maxHeartbeats 2000000
namespace Go.Proofs.YthoionlldmfpiaaGreat
open Go Go.Ab
attribute [local irreducible] aol
attribute [local irreducible] popN
def posD (x P : List Int) (v : Int) : Nat → Nat
  | 0 => 0
  | k + 1 => if x.getD (P.getD k 0).toNat 0 < v then posD x P v k else k + 1
def insD (x P : List Int) (i : Nat) : List Int := P.take (posD x P (x.getD i 0) P.length) ++ [(i : Int)] ++ P.drop (posD x P (x.getD i 0) P.length)
def ordV (x : List Int) : Nat → List Int
  | 0 => []
  | i + 1 => insD x (ordV x i) i
theorem posD_le (x P : List Int) (v : Int) : ∀ k, posD x P v k ≤ k
  | 0 => Nat.le_refl _
  | k + 1 => by
    have := posD_le x P v k
    unfold posD; split <;> omega
theorem posD_lt {x P : List Int} {v : Int} {k : Nat} (h : x.getD (P.getD k 0).toNat 0 < v) : posD x P v (k + 1) = posD x P v k := if_pos h
theorem posD_ge {x P : List Int} {v : Int} {k : Nat} (h : ¬ x.getD (P.getD k 0).toNat 0 < v) : posD x P v (k + 1) = k + 1 := if_neg h
theorem insD_len (x P : List Int) (i : Nat) : (insD x P i).length = P.length + 1 := by
  have := posD_le x P (x.getD i 0) P.length
  simp only [insD, List.length_append, List.length_take, List.length_drop, List.length_singleton]; omega
theorem ordV_len (x : List Int) : ∀ i, (ordV x i).length = i
  | 0 => rfl
  | i + 1 => by show (insD x (ordV x i) i).length = _; rw [insD_len, ordV_len x i]
theorem insD_mem {x P : List Int} {i : Nat} {y : Int} : y ∈ insD x P i ↔ y = (i : Int) ∨ y ∈ P := by
  simp only [insD, List.mem_append, List.mem_singleton]
  constructor
  · rintro ((h | h) | h)
    · exact .inr (List.mem_of_mem_take h)
    · exact .inl h
    · exact .inr (List.mem_of_mem_drop h)
  · rintro (h | h)
    · exact .inl (.inr h)
    · rw [← List.take_append_drop (posD x P (x.getD i 0) P.length) P, List.mem_append] at h
      rcases h with h | h
      · exact .inl (.inl h)
      · exact .inr h
theorem ordV_mem {x : List Int} {y : Int} : ∀ {i : Nat}, y ∈ ordV x i ↔ 0 ≤ y ∧ y < i
  | 0 => by simp only [ordV, List.not_mem_nil, false_iff]; omega
  | i + 1 => by
    show y ∈ insD x (ordV x i) i ↔ _
    rw [insD_mem, ordV_mem (i := i)]; omega
theorem insD_nodup {x P : List Int} {i : Nat} (h : P.Nodup) (hi : ¬ (i : Int) ∈ P) : (insD x P i).Nodup := by
  have e : (insD x P i).Perm ((i : Int) :: P) := by
    unfold insD
    refine ((List.perm_append_comm (l₁ := P.take _) (l₂ := [(i : Int)])).append_right _).trans ?_
    rw [List.append_assoc, List.take_append_drop]; exact List.Perm.refl _
  exact e.nodup_iff.2 (List.nodup_cons.2 ⟨hi, h⟩)
theorem ordV_nodup (x : List Int) : ∀ i, (ordV x i).Nodup
  | 0 => List.nodup_nil
  | i + 1 => insD_nodup (ordV_nodup x i) fun h => by have := ordV_mem.1 h; omega
theorem ordV_at {x : List Int} {i k : Nat} (h : k < i) : 0 ≤ (ordV x i).getD k 0 ∧ (ordV x i).getD k 0 < i :=
  ordV_mem.1 (mem_getD (by rw [ordV_len]; exact h) rfl)
def datD (P : List Int) (i : Int) (R : List Int) (j : Nat) : List Int := P.take j ++ i :: (P.drop j ++ R)
theorem datD_len {P R : List Int} {i : Int} {j : Nat} (h : j ≤ P.length) : (datD P i R j).length = P.length + 1 + R.length := by
  simp only [datD, List.length_append, List.length_take, List.length_cons, List.length_drop]; omega
theorem datD_j {P R : List Int} {i : Int} {j : Nat} (h : j ≤ P.length) : (datD P i R j).getD j 0 = i := by
  rw [datD, List.getD_eq_getElem?_getD, List.getElem?_append_right (by rw [List.length_take]; omega), List.length_take, show j - min j P.length = 0 by omega]; rfl
theorem datD_p {P R : List Int} {i : Int} {j k : Nat} (h : k < j) (h2 : j ≤ P.length) : (datD P i R j).getD k 0 = P.getD k 0 := by
  rw [datD, List.getD_eq_getElem?_getD, List.getElem?_append_left (by rw [List.length_take]; omega), List.getElem?_take, if_pos h, List.getD_eq_getElem?_getD]
theorem datD_swap {P R : List Int} {i : Int} {j : Nat} (h : j < P.length) : ((datD P i R (j + 1)).set (j + 1) (P.getD j 0)).set j i = datD P i R j := by
  apply List.ext_getElem?
  intro m
  have hd : P[j]? = some (P.getD j 0) := by rw [List.getD_eq_getElem?_getD, List.getElem?_eq_getElem h]; rfl
  have hl := datD_len (P := P) (R := R) (i := i) (j := j + 1) (by omega)
  rw [List.getElem?_set, List.getElem?_set]
  by_cases h1 : j = m
  · subst h1
    rw [if_pos rfl, List.length_set, if_pos (by omega), datD, List.getElem?_append_right (by rw [List.length_take]; omega), List.length_take, show j - min j P.length = 0 by omega]; rfl
  · rw [if_neg h1]
    by_cases h2 : j + 1 = m
    · subst h2
      rw [if_pos rfl, if_pos (by omega), datD, List.getElem?_append_right (by rw [List.length_take]; omega), List.length_take, show j + 1 - min j P.length = 1 by omega, List.getElem?_cons_succ, List.getElem?_append_left (by rw [List.length_drop]; omega), List.getElem?_drop, Nat.add_zero, hd]
    · rw [if_neg h2]
      simp only [datD]
      by_cases h3 : m < j
      · rw [List.getElem?_append_left (by rw [List.length_take]; omega), List.getElem?_append_left (by rw [List.length_take]; omega), List.getElem?_take, List.getElem?_take, if_pos (by omega), if_pos h3]
      · rw [List.getElem?_append_right (by rw [List.length_take]; omega), List.getElem?_append_right (by rw [List.length_take]; omega), List.length_take, List.length_take]
        obtain ⟨t, rfl⟩ : ∃ t, m = j + 2 + t := ⟨m - (j + 2), by omega⟩
        rw [show j + 2 + t - min (j + 1) P.length = t + 1 by omega, show j + 2 + t - min j P.length = t + 2 by omega, List.getElem?_cons_succ, List.getElem?_cons_succ]
        rw [List.drop_eq_getElem_cons h, List.cons_append, List.getElem?_cons_succ]
theorem datD_end (x P R : List Int) (i : Nat) : datD P i R (posD x P (x.getD i 0) P.length) = insD x P i ++ R := by
  simp only [datD, insD, List.append_assoc, List.cons_append, List.nil_append, List.singleton_append]
theorem datD_start (P R : List Int) (i : Int) : datD P i R P.length = P ++ i :: R := by
  rw [datD, List.take_length, List.drop_length]; rfl
def upI (a : Nat) : Nat → List Int
  | 0 => []
  | b + 1 => (a : Int) :: upI (a + 1) b
theorem upI_len : ∀ (b a : Nat), (upI a b).length = b
  | 0, _ => rfl
  | b + 1, a => by rw [upI, List.length_cons, upI_len b]
theorem upI_get : ∀ {b a k : Nat}, k < b → (upI a b).getD k 0 = (a + k : Nat)
  | b + 1, a, 0, _ => rfl
  | b + 1, a, k + 1, h => by rw [upI, List.getD_cons_succ, upI_get (by omega)]; congr 1; omega
def grS (l o : List Int) : Nat → Nat
  | 0 => 0
  | k + 1 => if l.getD (grS l o k) 0 < l.getD (grS l o k ||| 2 ^ (o.getD k 0).toNat) 0 then grS l o k ||| 2 ^ (o.getD k 0).toNat else grS l o k
def grN (l o w : List Int) : Nat → Int
  | 0 => 0
  | k + 1 => if l.getD (grS l o k) 0 < l.getD (grS l o k ||| 2 ^ (o.getD k 0).toNat) 0 then grN l o w k + w.getD (o.getD k 0).toNat 0 else grN l o w k
theorem grS_yes {l o : List Int} {k : Nat} (h : l.getD (grS l o k) 0 < l.getD (grS l o k ||| 2 ^ (o.getD k 0).toNat) 0) : grS l o (k + 1) = grS l o k ||| 2 ^ (o.getD k 0).toNat := if_pos h
theorem grS_no {l o : List Int} {k : Nat} (h : ¬ l.getD (grS l o k) 0 < l.getD (grS l o k ||| 2 ^ (o.getD k 0).toNat) 0) : grS l o (k + 1) = grS l o k := if_neg h
theorem grN_yes {l o w : List Int} {k : Nat} (h : l.getD (grS l o k) 0 < l.getD (grS l o k ||| 2 ^ (o.getD k 0).toNat) 0) : grN l o w (k + 1) = grN l o w k + w.getD (o.getD k 0).toNat 0 := if_pos h
theorem grN_no {l o w : List Int} {k : Nat} (h : ¬ l.getD (grS l o k) 0 < l.getD (grS l o k ||| 2 ^ (o.getD k 0).toNat) 0) : grN l o w (k + 1) = grN l o w k := if_neg h
theorem grS_lt {l o : List Int} {n : Nat} (h : ∀ k, k < o.length → (o.getD k 0).toNat < n) : ∀ {k : Nat}, k ≤ o.length → grS l o k < 2 ^ n
  | 0, _ => Nat.two_pow_pos n
  | k + 1, hk => by
    have ih := grS_lt (l := l) h (k := k) (by omega)
    unfold grS; split
    · exact Nat.or_lt_two_pow ih (Nat.pow_lt_pow_right (by omega) (h k (by omega)))
    · exact ih
theorem grS_bit {l o : List Int} {e : Nat} : ∀ {k : Nat}, Nat.testBit (grS l o k) e = true → ∃ j, j < k ∧ (o.getD j 0).toNat = e
  | 0, h => by simp [grS] at h
  | k + 1, h => by
    unfold grS at h
    split at h
    · rw [Nat.testBit_or, Bool.or_eq_true] at h
      rcases h with h | h
      · obtain ⟨j, hj, e'⟩ := grS_bit h; exact ⟨j, by omega, e'⟩
      · rw [Nat.testBit_two_pow] at h; exact ⟨k, by omega, by simpa using h⟩
    · obtain ⟨j, hj, e'⟩ := grS_bit h; exact ⟨j, by omega, e'⟩
theorem grN_wV {l o w : List Int} {n : Nat} (hd : o.Nodup) (h0 : ∀ k, k < o.length → 0 ≤ o.getD k 0) (h : ∀ k, k < o.length → (o.getD k 0).toNat < n) : ∀ {k : Nat}, k ≤ o.length → grN l o w k = wV w (grS l o k) n
  | 0, _ => by
    have : ∀ n, wV w 0 n = 0 := fun n => by
      induction n with
      | zero => rfl
      | succ n ih => unfold wV; rw [ih, Nat.zero_testBit]; rfl
    show 0 = wV w 0 n
    rw [this]
  | k + 1, hk => by
    have ih := grN_wV (l := l) (w := w) hd h0 h (k := k) (by omega)
    by_cases hc : l.getD (grS l o k) 0 < l.getD (grS l o k ||| 2 ^ (o.getD k 0).toNat) 0
    · rw [grN_yes hc, grS_yes hc]
      have hb : Nat.testBit (grS l o k) (o.getD k 0).toNat = false := Bool.eq_false_iff.2 fun hb => by
        obtain ⟨j, hj, e⟩ := grS_bit hb
        have e2 : o.getD j 0 = o.getD k 0 := by have := h0 j (by omega); have := h0 k (by omega); omega
        rw [List.getD_eq_getElem?_getD, List.getD_eq_getElem?_getD, List.getElem?_eq_getElem (by omega), List.getElem?_eq_getElem (by omega)] at e2
        have := (List.getElem_inj hd).1 e2
        omega
      rw [wV_or hb, if_pos (h k (by omega)), ih]
    · rw [grN_no hc, grS_no hc]; exact ih
theorem grN_bd {l o w : List Int} (h : (w.all fun x => inR x (-1000) 1000) = true) : ∀ k : Nat, -1000 * (k : Int) ≤ grN l o w k ∧ grN l o w k ≤ 1000 * (k : Int)
  | 0 => by simp [grN]
  | k + 1 => by
    have h1 := grN_bd (l := l) (o := o) h k
    have h2 := getD_bd' (M := 1000) (by omega) h (o.getD k 0).toNat
    unfold grN; split <;> omega
end Go.Proofs.YthoionlldmfpiaaGreat
