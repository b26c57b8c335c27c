import Derived.Test.YtjlpjkiadohkiaaHs
import Derived.Test.YtjlpjkiadohkiaaT64
set_option linter.unusedSimpArgs false
set_option linter.unusedVariables false
set_option maxHeartbeats 2000000
namespace Go.Proofs.Ytjlpjkiadohkiaa
open Go Go.Ab
attribute [local irreducible] aol
attribute [local irreducible] popN


theorem la_get (l : List Int) {n a : Nat} (ha : a < n) (hn : n ≤ 5) : ∀ k, k < n → ∀ j, j ≤ k → (laO l n a k).1.getD j 0 = (laV l n a j : Int)
  | 0, _, j, hj => by obtain rfl : j = 0 := by omega
                      rfl
  | k + 1, hk, j, hj => by
    obtain ⟨g1, g2, g3, g4⟩ := laO_spec l ha hn k (by omega)
    show ((laO l n a k).1 ++ [loB l (laO l n a k).2 n]).getD j 0 = _
    by_cases e : j = k + 1
    · subst e
      rw [List.getD_eq_getElem?_getD, List.getElem?_append_right (by omega), g1, Nat.sub_self]
      exact (laV_spec l ha hn (k := k) hk).2.2.1
    · rw [List.getD_eq_getElem?_getD, List.getElem?_append_left (by omega), ← List.getD_eq_getElem?_getD]
      exact la_get l ha hn k (by omega) j (by omega)
theorem fullN_all : ((List.range 6).all fun n => (List.range 32).all fun s => !decide (s < 2 ^ n) || ((!decide (popN s = n) || decide (s = 2 ^ n - 1)) && decide ((2 ^ n - 1) ^^^ s = 2 ^ n - 1 - s))) = true := by kernel_rfl
theorem fullN {n s : Nat} (hn : n < 6) (hs : s < 2 ^ n) : (popN s = n → s = 2 ^ n - 1) ∧ (2 ^ n - 1) ^^^ s = 2 ^ n - 1 - s := by
  have h32 : 2 ^ n ≤ 32 := Nat.le_trans (Nat.pow_le_pow_right (by omega) (show n ≤ 5 by omega)) (by decide)
  have := List.all_eq_true.1 (List.all_eq_true.1 fullN_all n (List.mem_range.2 hn)) s (List.mem_range.2 (by omega))
  rw [decide_eq_true hs, Bool.not_true, Bool.false_or, Bool.and_eq_true, decide_eq_true_eq, Bool.or_eq_true, Bool.not_eq_true', decide_eq_false_iff_not, decide_eq_true_eq] at this
  exact ⟨fun h => by rcases this.1 with h' | h'; · exact absurd h h'
                     · exact h', this.2⟩
theorem sym_at {n : Int} {l : List Int} (h : symV n l = true) {j : Nat} (hj : j < 2 ^ n.toNat) : l.getD j 0 = l.getD (2 ^ n.toNat - 1 - j) 0 := by
  unfold symV at h
  rw [Bool.and_eq_true, decide_eq_true_eq] at h
  have : l.getD j 0 = (opL n l).getD j 0 := by rw [← h.2]
  rw [this]; unfold opL; rw [mkL_get hj, opF, Int.toNat_natCast]; rfl
theorem pend_le {n : Int} {l : List Int} (h : cutV n l = true) {a : Nat} (ha : a < n.toNat) {s : Nat} (hs : s < 2 ^ n.toNat) (hu : Nat.testBit s (laV l n.toNat a (n.toNat - 1)) = true) (ht : Nat.testBit s (laV l n.toNat a (n.toNat - 2)) = false) :
    l.getD (2 ^ laV l n.toNat a (n.toNat - 1)) 0 ≤ l.getD s 0 := by
  obtain ⟨hsub, hsym, h2⟩ := cut_iff.1 h
  have hf := cut_fn h
  have hn := (fnV_iff.1 hf).1
  obtain ⟨m, hm⟩ : ∃ m, n.toNat = m + 2 := ⟨n.toNat - 2, by omega⟩
  have hq := queyranne hsub ha m (by omega)
  obtain ⟨v1, v2, v3, v4⟩ := laV_spec l (n := n.toNat) ha (by omega) (k := m) (by omega)
  obtain ⟨g1, g2, g3, g4⟩ := laO_spec l (n := n.toNat) ha (by omega) (m + 1) (by omega)
  have hW := laW_eq l n.toNat a m
  have hF : laW l n.toNat a m ||| 2 ^ laV l n.toNat a (m + 1) = 2 ^ n.toNat - 1 := by
    have := (fullN (n := n.toNat) (by omega) g2).1 (by omega)
    exact this
  rw [show n.toNat - 1 = m + 1 by omega] at hu ⊢
  rw [show n.toNat - 2 = m by omega] at ht
  generalize laV l n.toNat a (m + 1) = u at *
  generalize laV l n.toNat a m = t at *
  generalize laP l n.toNat a m = p at *
  generalize laW l n.toNat a m = w at *
  have hb : ∀ i m : Nat, Nat.testBit (2 ^ m) i = decide (m = i) := fun i m => Nat.testBit_two_pow ..
  have hfull : ∀ i, Nat.testBit (2 ^ n.toNat - 1) i = decide (i < n.toNat) := fun i => Nat.testBit_two_pow_sub_one ..
  have hwb : ∀ i, i ≠ u → Nat.testBit w i = decide (i < n.toNat) := fun i hi => by
    rw [← hfull, ← hF, Nat.testBit_or, hb, decide_eq_false (Ne.symm hi), Bool.or_false]
  have hsn : ∀ i, Nat.testBit s i = true → i < n.toNat := fun i hi => by
    refine Nat.lt_of_not_le fun hle => ?_
    rw [Nat.testBit_lt_two_pow (Nat.lt_of_lt_of_le hs (Nat.pow_le_pow_right (by omega) hle))] at hi; cases hi
  have h1 := hq (s ^^^ 2 ^ u) u v1 v2 (fun j hj => by
    rw [Nat.testBit_xor, hb] at hj
    by_cases e : u = j
    · subst e; rw [hu, decide_eq_true rfl] at hj; cases hj
    · rw [decide_eq_false e, Bool.xor_false] at hj
      have h3 := hwb j (Ne.symm e)
      rw [hW, Nat.testBit_or, hb, decide_eq_true (hsn j hj)] at h3
      by_cases e2 : t = j
      · subst e2; rw [ht] at hj; cases hj
      · rw [decide_eq_false e2, Bool.or_false] at h3; exact h3)
  have e1 : (s ^^^ 2 ^ u) ||| 2 ^ u = s := by
    apply Nat.eq_of_testBit_eq; intro i
    rw [Nat.testBit_or, Nat.testBit_xor, hb]
    by_cases e : u = i
    · subst e; rw [hu, decide_eq_true rfl]; rfl
    · rw [decide_eq_false e, Bool.xor_false, Bool.or_false]
  have e2 : w ^^^ (s ^^^ 2 ^ u) = (2 ^ n.toNat - 1) ^^^ s := by
    apply Nat.eq_of_testBit_eq; intro i
    rw [Nat.testBit_xor, Nat.testBit_xor, Nat.testBit_xor, hb, hfull]
    by_cases e : u = i
    · subst e; rw [hu, v2, decide_eq_true rfl, decide_eq_true v1]; rfl
    · rw [decide_eq_false e, Bool.xor_false, hwb i (Ne.symm e)]
  have e3 : w = (2 ^ n.toNat - 1) ^^^ 2 ^ u := by
    apply Nat.eq_of_testBit_eq; intro i
    rw [Nat.testBit_xor, hb, hfull]
    by_cases e : u = i
    · subst e; rw [v2, decide_eq_true rfl, decide_eq_true v1]; rfl
    · rw [decide_eq_false e, Bool.xor_false, hwb i (Ne.symm e)]
  have hult : 2 ^ u < 2 ^ n.toNat := Nat.pow_lt_pow_right (by omega) v1
  rw [e1, e2, e3, (fullN (n := n.toNat) (by omega) hs).2, (fullN (n := n.toNat) (by omega) hult).2, ← sym_at hsym hs, ← sym_at hsym hult] at h1
  omega
theorem lgA_t {n : Int} {l : List Int} (h : cutV n l = true) {a : Nat} (ha : a < n.toNat) : (lgA n l a).getD (n.toNat - 2) 0 = (laV l n.toNat a (n.toNat - 2) : Int) := by
  have hn := (fnV_iff.1 (cut_fn h)).1
  exact la_get l ha (by omega) _ (by omega) _ (by omega)
theorem lgA_u {n : Int} {l : List Int} (h : cutV n l = true) {a : Nat} (ha : a < n.toNat) : (lgA n l a).getD (n.toNat - 1) 0 = (laV l n.toNat a (n.toNat - 1) : Int) := by
  have hn := (fnV_iff.1 (cut_fn h)).1
  exact la_get l ha (by omega) _ (by omega) _ (by omega)
theorem laV_lt (l : List Int) {n a : Nat} (ha : a < n) (hn : n ≤ 5) : ∀ k, k < n → laV l n a k < n
  | 0, _ => ha
  | k + 1, hk => (laV_spec l ha hn hk).1
theorem laV_ne {n : Int} {l : List Int} (h : cutV n l = true) {a : Nat} (ha : a < n.toNat) : laV l n.toNat a (n.toNat - 2) ≠ laV l n.toNat a (n.toNat - 1) := by
  have hn := (fnV_iff.1 (cut_fn h)).1
  have h2 := (cut_iff.1 h).2.2
  obtain ⟨m, hm⟩ : ∃ m, n.toNat = m + 2 := ⟨n.toNat - 2, by omega⟩
  rw [show n.toNat - 1 = m + 1 by omega, show n.toNat - 2 = m by omega]
  have h1 := (laV_spec l (n := n.toNat) ha (by omega) (k := m) (by omega)).2.1
  rw [laW_eq l n.toNat a m, Nat.testBit_or, Bool.or_eq_false_iff] at h1
  intro e
  rw [← e, Nat.testBit_two_pow_self] at h1
  cases h1.2
theorem pend_la {n : Int} {l : List Int} (h : cutV n l = true) {a : Nat} (ha : a < n.toNat) : pendV n l ((lgA n l a).getD (n.toNat - 2) 0) ((lgA n l a).getD (n.toNat - 1) 0) = true := by
  have hf := cut_fn h
  have hn := (fnV_iff.1 hf).1
  have h2 := (cut_iff.1 h).2.2
  have hlen := fnV_len hf
  have ht := laV_lt l (n := n.toNat) ha (by omega) (n.toNat - 2) (by omega)
  have hu := laV_lt l (n := n.toNat) ha (by omega) (n.toNat - 1) (by omega)
  have hne := laV_ne h ha
  rw [lgA_t h ha, lgA_u h ha]
  unfold pendV
  rw [h, Bool.true_and, Bool.and_eq_true, Bool.and_eq_true, Bool.and_eq_true, inR_iff, inR_iff, Bool.not_eq_true', decide_eq_false_iff_not, List.all_eq_true]
  refine ⟨by omega, by omega, by omega, fun s hs => ?_⟩
  rw [List.mem_range, hlen] at hs
  rw [Int.toNat_natCast, Int.toNat_natCast]
  unfold pkP
  cases hbu : Nat.testBit s (laV l n.toNat a (n.toNat - 1)) with
  | false => rfl
  | true =>
    cases hbt : Nat.testBit s (laV l n.toNat a (n.toNat - 2)) with
    | true => rfl
    | false =>
      have := pend_le h ha hs hbu hbt
      rw [decide_eq_false (by omega)]; rfl
theorem lgO_A (n : Int) (l : List Int) : lgO n l = lgA n l 0 := by unfold lgO lgA; rw [laO_zero]
theorem pend_pp {n : Int} {l : List Int} (h : cutV n l = true) : pendV n l (ppT n l) (ppU n l) = true := by
  have h2 := (cut_iff.1 h).2.2
  unfold ppT ppU
  rw [lgO_A]
  exact pend_la h (by omega)

theorem pp_le {n : Int} {l : List Int} (h : cutV n l = true) {s : Nat} (hs : s < 2 ^ n.toNat) (hu : Nat.testBit s (ppU n l).toNat = true) (ht : Nat.testBit s (ppT n l).toNat = false) : l.getD (2 ^ (ppU n l).toNat) 0 ≤ l.getD s 0 := by
  have h2 := (cut_iff.1 h).2.2
  have e1 : ppT n l = (laV l n.toNat 0 (n.toNat - 2) : Int) := by unfold ppT; rw [lgO_A]; exact lgA_t h (by omega)
  have e2 : ppU n l = (laV l n.toNat 0 (n.toNat - 1) : Int) := by unfold ppU; rw [lgO_A]; exact lgA_u h (by omega)
  rw [e1, Int.toNat_natCast] at ht
  rw [e2, Int.toNat_natCast] at hu ⊢
  exact pend_le h (by omega) hs hu ht
def mcV (l : List Int) : Int := l.getD (mcS l) 0
theorem mc_at {n : Int} {l : List Int} (h : cutV n l = true) : 1 ≤ mcS l ∧ mcS l < 2 ^ n.toNat - 1 := by
  have h2 := (cut_iff.1 h).2.2
  have hlen := fnV_len (cut_fn h)
  have hp4 : 4 ≤ 2 ^ n.toNat := Nat.pow_le_pow_right (n := 2) (by omega) (show 2 ≤ n.toNat by omega)
  have := mcB_le l (l.length - 1)
  unfold mcS; omega
theorem mc_le {n : Int} {l : List Int} (h : cutV n l = true) {s : Nat} (h1 : 1 ≤ s) (hs : s < 2 ^ n.toNat - 1) : mcV l ≤ l.getD s 0 := by
  have hlen := fnV_len (cut_fn h)
  exact mcB_min l (l.length - 1) s h1 (by omega)
theorem mgS_all : ((List.range 6).all fun n => (List.range n).all fun a => (List.range n).all fun b => decide (a = b) || (((List.range (2 ^ (n - 1))).all fun s => (decide (mgX n a b s = 0) == decide (s = 0)) && (decide (mgX n a b s = 2 ^ n - 1) == decide (s = 2 ^ (n - 1) - 1))) &&
    (List.range (2 ^ n)).all fun x => !(Nat.testBit x a == Nat.testBit x b) || (List.range (2 ^ (n - 1))).any fun s => Nat.beq (mgX n a b s) x)) = true := by kernel_rfl
theorem mgS_at {n a b : Nat} (hn : n < 6) (ha : a < n) (hb : b < n) (hab : a ≠ b) : (∀ s, s < 2 ^ (n - 1) → (mgX n a b s = 0 ↔ s = 0) ∧ (mgX n a b s = 2 ^ n - 1 ↔ s = 2 ^ (n - 1) - 1)) ∧
    ∀ x, x < 2 ^ n → Nat.testBit x a = Nat.testBit x b → ∃ s, s < 2 ^ (n - 1) ∧ mgX n a b s = x := by
  have := List.all_eq_true.1 (List.all_eq_true.1 (List.all_eq_true.1 mgS_all n (List.mem_range.2 hn)) a (List.mem_range.2 ha)) b (List.mem_range.2 hb)
  rw [decide_eq_false hab, Bool.false_or, Bool.and_eq_true] at this
  refine ⟨fun s hs => ?_, fun x hx e => ?_⟩
  · have h1 := List.all_eq_true.1 this.1 s (List.mem_range.2 hs)
    rw [Bool.and_eq_true, beq_iff_eq, beq_iff_eq, decide_eq_decide, decide_eq_decide] at h1
    exact h1
  · have h1 := List.all_eq_true.1 this.2 x (List.mem_range.2 hx)
    rw [e, beq_self_eq_true, Bool.not_true, Bool.false_or, List.any_eq_true] at h1
    obtain ⟨s, hs, h2⟩ := h1
    exact ⟨s, List.mem_range.1 hs, Nat.eq_of_beq_eq_true h2⟩
theorem mc_merge {n : Int} {l : List Int} (h : cutV n l = true) (h3 : 3 ≤ n) : mcV l = min (l.getD (2 ^ (ppU n l).toNat) 0) (mcV (mgL n l (ppT n l) (ppU n l))) := by
  obtain ⟨hsub, hsym, h2⟩ := cut_iff.1 h
  have hok := pp_ok h
  have hc' : cutV (n - 1) (mgL n l (ppT n l) (ppU n l)) = true := cut_iff.2 ⟨mg_sub hok hsub, mg_sym hok hsym, by omega⟩
  obtain ⟨hf, ht, hu, htu⟩ := hok
  have hn := (fnV_iff.1 hf).1
  obtain ⟨k1, k2⟩ := mgS_at (n := n.toNat) (a := (ppT n l).toNat) (b := (ppU n l).toNat) (by omega) (by omega) (by omega) (by omega)
  have hC : ∀ s, s < 2 ^ (n.toNat - 1) → mgC n.toNat (ppT n l).toNat (ppU n l).toNat s = true := fun s hs => mgC_at (by omega) (by omega) (by omega) (by omega) hs
  have e1 : (n - 1).toNat = n.toNat - 1 := by omega
  have hget : ∀ s, s < 2 ^ (n.toNat - 1) → (mgL n l (ppT n l) (ppU n l)).getD s 0 = l.getD (mgX n.toNat (ppT n l).toNat (ppU n l).toNat s) 0 := fun s hs => by
    unfold mgL; rw [mkL_get (by rw [e1]; exact hs), mgF, Int.toNat_natCast]
  have hp8 : 8 ≤ 2 ^ n.toNat := Nat.pow_le_pow_right (n := 2) (by omega) (show 3 ≤ n.toNat by omega)
  have hpp : 2 ^ n.toNat = 2 * 2 ^ (n.toNat - 1) := by rw [Nat.mul_comm, ← Nat.pow_succ, show (n.toNat - 1).succ = n.toNat by omega]
  have hult : 2 ^ (ppU n l).toNat ≤ 2 ^ (n.toNat - 1) := Nat.pow_le_pow_right (by omega) (by omega)
  have hu0 := Nat.two_pow_pos (ppU n l).toNat
  have a1 := mc_le h (s := 2 ^ (ppU n l).toNat) (by omega) (by omega)
  obtain ⟨m1, m2⟩ := mc_at hc'
  rw [e1] at m2
  have a2 : mcV l ≤ mcV (mgL n l (ppT n l) (ppU n l)) := by
    have hk := k1 (mcS (mgL n l (ppT n l) (ppU n l))) (by omega)
    have hlt := (mg_lt (hC (mcS (mgL n l (ppT n l) (ppU n l))) (by omega))).1
    have := mc_le h (s := mgX n.toNat (ppT n l).toNat (ppU n l).toNat (mcS (mgL n l (ppT n l) (ppU n l)))) (by
      have := mt hk.1.1 (by omega); omega) (by
      have := mt hk.2.1 (by omega); omega)
    rw [← hget _ (by omega)] at this
    exact this
  have a3 : l.getD (2 ^ (ppU n l).toNat) 0 ≤ mcV l ∨ mcV (mgL n l (ppT n l) (ppU n l)) ≤ mcV l := by
    obtain ⟨s1, s2⟩ := mc_at h
    by_cases hb : Nat.testBit (mcS l) (ppT n l).toNat = Nat.testBit (mcS l) (ppU n l).toNat
    · right
      obtain ⟨s, hs, hx⟩ := k2 (mcS l) (by omega) hb
      have hk := k1 s hs
      rw [hx] at hk
      have := mc_le hc' (s := s) (by have := mt hk.1.2 (by omega); omega) (by rw [e1]; have := mt hk.2.2 (by omega); omega)
      rw [hget s hs, hx] at this
      exact this
    · left
      cases hbu : Nat.testBit (mcS l) (ppU n l).toNat with
      | true =>
        rw [hbu] at hb
        exact pp_le h (by omega) hbu (by revert hb; cases Nat.testBit (mcS l) (ppT n l).toNat <;> simp)
      | false =>
        rw [hbu] at hb
        have hbt : Nat.testBit (mcS l) (ppT n l).toNat = true := by revert hb; cases Nat.testBit (mcS l) (ppT n l).toNat <;> simp
        have hlt : mcS l < 2 ^ n.toNat := by omega
        have hx := (fullN (n := n.toNat) (by omega) hlt).2
        have := pp_le h (s := 2 ^ n.toNat - 1 - mcS l) (by omega)
          (by rw [← hx, Nat.testBit_xor, hbu, Nat.testBit_two_pow_sub_one, decide_eq_true (by omega)]; rfl)
          (by rw [← hx, Nat.testBit_xor, hbt, Nat.testBit_two_pow_sub_one, decide_eq_true (by omega)]; rfl)
        rw [← sym_at hsym hlt] at this
        exact this
  omega
theorem mc_two {l : List Int} (h : cutV 2 l = true) : mcV l = l.getD (2 ^ (ppU 2 l).toNat) 0 := by
  obtain ⟨hsub, hsym, h2⟩ := cut_iff.1 h
  obtain ⟨hf, ht, hu, htu⟩ := pp_ok h
  obtain ⟨m1, m2⟩ := mc_at h
  have hs := sym_at hsym (j := 1) (by decide)
  have hs' : l.getD 1 0 = l.getD 2 0 := hs
  have e : ppU 2 l = 0 ∨ ppU 2 l = 1 := by omega
  have m2' : mcS l < 3 := m2
  unfold mcV
  have e2 : mcS l = 1 ∨ mcS l = 2 := by omega
  rcases e with e | e <;> rcases e2 with e2 | e2 <;> rw [e, e2]
  · rfl
  · exact hs'.symm
  · exact hs'
  · rfl
theorem cut_mc {n : Int} {l : List Int} (h : cutV n l = true) : cmB n l (n.toNat - 1) = mcV l := by
  have h2 := (cut_iff.1 h).2.2
  have hf := cut_fn h
  have key : ∀ k : Nat, (k : Int) + 2 ≤ n → mcV l = min (cmB n l k) (mcV (cmI n l k).2) := by
    intro k
    induction k with
    | zero =>
      intro _
      have hbd := getD_bd (fnV_iff.1 hf).2.2 (mcS l)
      have e0 : cmB n l 0 = 100000 := rfl
      have e1 : mcV (cmI n l 0).2 = l.getD (mcS l) 0 := rfl
      have e2 : mcV l = l.getD (mcS l) 0 := rfl
      omega
    | succ k ih =>
      intro hk
      have h1 := ih (by omega)
      obtain ⟨c1, c2, c3⟩ := cmI_spec h k (by omega)
      have hm := mc_merge (c3 (by omega)) (by omega)
      have e1 : (cmI n l (k + 1)).2 = mgL (n - k) (cmI n l k).2 (ppT (n - k) (cmI n l k).2) (ppU (n - k) (cmI n l k).2) := by
        show mgL (cmI n l k).1 _ _ _ = _; rw [c1]
      have e2 : cmW n l k = (cmI n l k).2.getD (2 ^ (ppU (n - k) (cmI n l k).2).toNat) 0 := by unfold cmW; rw [c1]
      rw [← e1, ← e2] at hm
      rw [cmB_succ]
      split <;> omega
  have h1 := key (n.toNat - 2) (by omega)
  obtain ⟨c1, c2, c3⟩ := cmI_spec h (n.toNat - 2) (by omega)
  have en : n - ((n.toNat - 2 : Nat) : Int) = 2 := by omega
  rw [en] at c1 c3
  have h3 := mc_two (c3 (by omega))
  have e2 : cmW n l (n.toNat - 2) = mcV (cmI n l (n.toNat - 2)).2 := by unfold cmW; rw [c1, h3]
  rw [show n.toNat - 1 = n.toNat - 2 + 1 by omega, cmB_succ, e2]
  split <;> omega
end Go.Proofs.Ytjlpjkiadohkiaa
