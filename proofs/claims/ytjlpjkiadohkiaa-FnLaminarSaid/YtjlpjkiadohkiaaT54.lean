import Derived.Test.YtjlpjkiadohkiaaT53
set_option linter.unusedSimpArgs false
set_option linter.unusedVariables false
set_option maxHeartbeats 2000000
namespace Go.Proofs.Ytjlpjkiadohkiaa
open Go Go.Ab
attribute [local irreducible] aol
attribute [local irreducible] popN


theorem rangeL_cnt (p : Int → Bool) : ∀ n : Nat, (rangeL p n).length = cntP (fun i => p (i : Int)) n
  | 0 => rfl
  | n + 1 => by
    have ih := rangeL_cnt p n
    cases h : p (n : Int) with
    | true => rw [rangeL_yes h, cntP_1 h, List.length_append, ih]; rfl
    | false => rw [rangeL_no h, cntP_0 h, ih]
theorem fam_range {g : Int} {l : List Int} (h : famV g l = true) : l = rangeL (fun x => decide (x ∈ l)) (2 ^ g.toNat) := by
  have h' := famV_iff.1 h
  refine asc_ext (asc_of_inc h'.2.2) (rangeL_asc _ _) fun x => ?_
  rw [mem_rangeL, decide_eq_true_eq, ← isSet_range h'.1.1]
  exact ⟨fun hx => ⟨List.all_eq_true.1 h'.2.1 x hx, hx⟩, fun hx => hx.2⟩
theorem fine_mem {l : List Int} (h : lamV l = true) {x y : Int} (hx : x ∈ l) (hy : y ∈ l) : x = y ∨ fineV x y = true := by
  obtain ⟨i, hi, rfl⟩ := List.getElem_of_mem hx
  obtain ⟨j, hj, rfl⟩ := List.getElem_of_mem hy
  by_cases e : i = j
  · left; subst e; rfl
  · right
    have := lamV_at h hi hj e
    rw [List.getD_eq_getElem?_getD, List.getD_eq_getElem?_getD, List.getElem?_eq_getElem hi, List.getElem?_eq_getElem hj] at this
    exact this
theorem lam_size {g : Int} {l : List Int} (hf : famV g l = true) (hl : lamV l = true) : (l.length : Int) ≤ 2 ∨ (l.length : Int) ≤ 2 * g := by
  have h' := famV_iff.1 hf
  have hp6 := pow_le6 h'.1
  have e := congrArg List.length (fam_range hf)
  rw [rangeL_cnt] at e
  let p : Nat → Bool := fun i => decide ((i : Int) ∈ l)
  have e' : l.length = cntP p (2 ^ g.toNat) := e
  have hpos : 0 < 2 ^ g.toNat := Nat.two_pow_pos _
  have e1 : cntP p (2 ^ g.toNat) ≤ cntP (posP p) (2 ^ g.toNat) + 1 := by
    obtain ⟨m, hm⟩ : ∃ m, 2 ^ g.toNat = 1 + m := ⟨2 ^ g.toNat - 1, by omega⟩
    rw [hm, cntP_add _ 1 m, cntP_add _ 1 m]
    have h1 : cntP p 1 ≤ 1 := cntP_le _ 1
    have h2 : cntP (fun j => posP p (1 + j)) m = cntP (fun j => p (1 + j)) m := cntP_congr fun j _ => by
      simp only [posP]; rw [decide_eq_true (by omega)]; rfl
    rw [h2]; omega
  have hlam : lamN g.toNat p := fun a b ha hb h1 h2 => by
    have h1' : (a : Int) ∈ l := of_decide_eq_true h1
    have h2' : (b : Int) ∈ l := of_decide_eq_true h2
    rcases fine_mem hl h1' h2' with e | e
    · right; left
      have : a = b := by omega
      subst this; exact Nat.and_self a
    · unfold fineV at e
      rw [iand_nat (by omega) (by omega)] at e
      simp only [Bool.or_eq_true, decide_eq_true_eq] at e
      omega
  rcases Nat.eq_zero_or_pos g.toNat with h0 | h0
  · left
    rw [h0] at e'
    have := cntP_le p (2 ^ 0)
    omega
  · right
    obtain ⟨n, hn⟩ : ∃ n, g.toNat = n + 1 := ⟨g.toNat - 1, by omega⟩
    have h3 := lam_count n p (by rw [← hn]; exact hlam)
    rw [← hn] at h3
    omega
theorem fine_cross {n a b : Int} (h : fineV a b = true) : crossV n a b = false := by
  unfold fineV at h
  unfold crossV
  simp only [Bool.or_eq_true, decide_eq_true_eq] at h
  rcases h with h | h | h <;> simp [h]
theorem lam_xf {g : Int} {l : List Int} (hl : lamV l = true) : xfreeV g l = true := by
  unfold xfreeV
  rw [List.all_eq_true]
  intro i hi
  rw [List.all_eq_true]
  intro k hk
  rw [List.mem_range] at hi hk
  rw [fine_cross (lamV_at hl hi (by omega) (by omega))]; rfl
theorem cross_comm (n a b : Int) : crossV n a b = crossV n b a := by
  have h1 := iand_comm a b
  have h2 : ior a b = ior b a := by
    show IntKind.i64.wrap (((BitVec.ofInt 64 a ||| BitVec.ofInt 64 b).toNat : Nat) : Int) = IntKind.i64.wrap (((BitVec.ofInt 64 b ||| BitVec.ofInt 64 a).toNat : Nat) : Int)
    rw [BitVec.or_comm]
  unfold crossV
  rw [h1, h2]
  cases inR n 0 6 <;> cases isSet n a <;> cases isSet n b <;> cases decide (iand b a = 0) <;> cases decide (iand b a = a) <;> cases decide (iand b a = b) <;> rfl
/-- All elements of the first k sets. -/
def orV (l : List Int) : Nat → Nat
  | 0 => 0
  | k + 1 => orV l k ||| (l.getD k 0).toNat
theorem orV_bit {l : List Int} {e : Nat} : ∀ {k : Nat}, k ≤ l.length → (Nat.testBit (orV l k) e = true ↔ ∃ x, x ∈ l.take k ∧ Nat.testBit x.toNat e = true)
  | 0, _ => by simp [orV]
  | k + 1, hk => by
    have ih := orV_bit (l := l) (e := e) (k := k) (by omega)
    unfold orV
    rw [Nat.testBit_or, Bool.or_eq_true, ih, List.take_add_one, List.getElem?_eq_getElem (by omega : k < l.length), List.getD_eq_getElem?_getD, List.getElem?_eq_getElem (by omega : k < l.length)]
    simp only [Option.toList_some, List.mem_append, List.mem_singleton, Option.getD_some]
    constructor
    · rintro (⟨x, hx, h⟩ | h)
      · exact ⟨x, .inl hx, h⟩
      · exact ⟨_, .inr rfl, h⟩
    · rintro ⟨x, hx | rfl, h⟩
      · exact .inl ⟨x, hx, h⟩
      · exact .inr h
theorem orV_ext {l m : List Int} (h : ∀ e, (∃ x, x ∈ l ∧ Nat.testBit x.toNat e = true) ↔ ∃ x, x ∈ m ∧ Nat.testBit x.toNat e = true) : orV l l.length = orV m m.length := by
  apply Nat.eq_of_testBit_eq
  intro e
  rw [Bool.eq_iff_iff, orV_bit (Nat.le_refl _), orV_bit (Nat.le_refl _), List.take_length, List.take_length]
  exact h e
theorem orV_lt {l : List Int} {n : Nat} (h : ∀ x, x ∈ l → x.toNat < 2 ^ n) : ∀ {k : Nat}, k ≤ l.length → orV l k < 2 ^ n
  | 0, _ => Nat.two_pow_pos n
  | k + 1, hk => Nat.or_lt_two_pow (orV_lt h (k := k) (by omega)) (h _ (mem_getD (by omega) rfl))
theorem othV_mem2 {l : List Int} {i k : Nat} {x : Int} : ∀ {j : Nat}, (x ∈ othV l i k j ↔ ∃ m, m < j ∧ ¬ m = i ∧ ¬ m = k ∧ l.getD m 0 = x)
  | 0 => by simp [othV]
  | j + 1 => by
    have ih := othV_mem2 (l := l) (i := i) (k := k) (x := x) (j := j)
    unfold othV
    split
    · rename_i h
      rw [ih]
      constructor
      · rintro ⟨m, h1, h2⟩; exact ⟨m, by omega, h2⟩
      · rintro ⟨m, h1, h2, h3, h4⟩; exact ⟨m, by omega, h2, h3, h4⟩
    · rename_i h
      rw [List.mem_append, ih, List.mem_singleton]
      constructor
      · rintro (⟨m, h1, h2⟩ | rfl)
        · exact ⟨m, by omega, h2⟩
        · exact ⟨j, by omega, fun e => h (.inl e), fun e => h (.inr e), rfl⟩
      · rintro ⟨m, h1, h2, h3, h4⟩
        by_cases e : m = j
        · subst e; exact .inr h4.symm
        · exact .inl ⟨m, by omega, h2, h3, h4⟩
theorem joinV_or {n : Int} {l : List Int} (h0 : 0 ≤ n ∧ n ≤ 62) (ha : l.all (isSet n) = true) : orV (joinV l) (joinV l).length = orV l l.length := by
  unfold joinV
  split
  · rfl
  · rename_i p hp
    obtain ⟨i, k⟩ := p
    have hik := firstV_some hp
    have hi := getD_all ha (k := i) (by omega)
    have hk := getD_all ha (k := k) (by omega)
    rw [isSet_range h0.1] at hi hk
    have h5 := pow5 (m := n.toNat) (by omega)
    have e : (ior (l.getD i 0) (l.getD k 0)).toNat = (l.getD i 0).toNat ||| (l.getD k 0).toNat := by
      have := ior_nat (a := (l.getD i 0).toNat) (b := (l.getD k 0).toNat) (by omega) (by omega)
      rw [Int.toNat_of_nonneg hi.1, Int.toNat_of_nonneg hk.1] at this
      rw [this, Int.toNat_natCast]
    refine orV_ext fun t => ?_
    show (∃ x, x ∈ joinAt l i k ∧ _) ↔ _
    constructor
    · rintro ⟨x, hx, hb⟩
      rw [joinAt, gatV_mem, List.mem_append, List.mem_singleton] at hx
      rcases hx with hx | rfl
      · exact ⟨x, othV_mem (Nat.le_refl _) hx, hb⟩
      · rw [e, Nat.testBit_or, Bool.or_eq_true] at hb
        rcases hb with hb | hb
        · exact ⟨_, mem_getD (by omega) rfl, hb⟩
        · exact ⟨_, mem_getD (by omega) rfl, hb⟩
    · rintro ⟨x, hx, hb⟩
      obtain ⟨m, hm, rfl⟩ := List.getElem_of_mem hx
      have em : l.getD m 0 = l[m] := by rw [List.getD_eq_getElem?_getD, List.getElem?_eq_getElem hm]; rfl
      have mem : ∀ y, (y ∈ othV l i k l.length ∨ y = ior (l.getD i 0) (l.getD k 0)) → y ∈ joinAt l i k := fun y hy => by
        rw [joinAt, gatV_mem, List.mem_append, List.mem_singleton]; exact hy
      by_cases e1 : m = i
      · subst e1
        exact ⟨_, mem _ (.inr rfl), by rw [e, Nat.testBit_or, em, hb]; rfl⟩
      · by_cases e2 : m = k
        · subst e2
          exact ⟨_, mem _ (.inr rfl), by rw [e, Nat.testBit_or, em, hb, Bool.or_true]⟩
        · exact ⟨_, mem _ (.inl (othV_mem2.2 ⟨m, hm, e1, e2, em⟩)), hb⟩
theorem hullV_facts {n : Int} (h0 : 0 ≤ n ∧ n ≤ 62) : ∀ (m : Nat) (l : List Int), l.length ≤ m → l.all (isSet n) = true → incB l = true →
    (hullV m l).all (isSet n) = true ∧ incB (hullV m l) = true ∧ (firstV (hullV m l)).isSome = false ∧ orV (hullV m l) (hullV m l).length = orV l l.length
  | 0, l, hm, ha, hi => by
    obtain rfl : l = [] := List.length_eq_zero_iff.1 (by omega)
    exact ⟨rfl, rfl, rfl, rfl⟩
  | m + 1, l, hm, ha, hi => by
    cases h : (firstV l).isSome with
    | false => rw [hullV_end h]; exact ⟨ha, hi, h, rfl⟩
    | true =>
      have hlen := joinV_len h
      obtain ⟨h1, h2, h3, h4⟩ := hullV_facts h0 m (joinV l) (by omega) (joinV_sets h0 ha) (joinV_inc h)
      rw [hullV_step h]
      exact ⟨h1, h2, h3, h4.trans (joinV_or h0 ha)⟩
theorem hull_fam {g : Int} {l : List Int} (hf : famV g l = true) : famV g (hullL l) = true ∧ lamV (hullL l) = true ∧ orV (hullL l) (hullL l).length = orV l l.length := by
  have h' := famV_iff.1 hf
  obtain ⟨h1, h2, h3, h4⟩ := hullV_facts (n := g) (by omega) l.length l (Nat.le_refl _) h'.2.1 h'.2.2
  have e := first_lam (n := g) (by omega) h1
  rw [h3] at e
  refine ⟨famV_iff.2 ⟨h'.1, h1, h2⟩, ?_, h4⟩
  show lamV (hullV l.length l) = true
  cases hl : lamV (hullV l.length l) with
  | true => rfl
  | false => rw [hl] at e; cases e
theorem hull_eq {g : Int} {l : List Int} (hf : famV g l = true) : decide (l = hullL l) = lamV l := by
  have h' := famV_iff.1 hf
  have e := first_lam (n := g) (by omega) h'.2.1
  cases hl : lamV l with
  | true =>
    rw [hl] at e
    rw [hullL_end e]; exact decide_eq_true rfl
  | false =>
    refine decide_eq_false fun h => ?_
    have := (hull_fam hf).2.1
    rw [← h, hl] at this
    cases this
end Go.Proofs.Ytjlpjkiadohkiaa
