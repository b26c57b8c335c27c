import Derived.Test.YthoionlldmfpiaaGreatHs
import Derived.Test.YthoionlldmfpiaaGreatT10
set_option linter.unusedSimpArgs false
set_option linter.unusedVariables false
set_option maxHeartbeats 2000000
namespace Go.Proofs.YthoionlldmfpiaaGreat
open Go Go.Ab
attribute [local irreducible] aol
def mnP (l : List Int) (i : Nat) : Bool := (List.range l.length).all fun k => decide (k = i) || !decide (iand (l.getD k 0) (l.getD i 0) = l.getD k 0)
def mnC (s t : Int) : Bool := !decide (t = s) && decide (iandn t s = 0)
def minV (l : List Int) : List Int := pickL (mnP l) l l.length
def minW (l : List Int) : List Int := pickL (fun i => !(l.any (mnC (l.getD i 0)))) l l.length
theorem mn_eq {n : Int} {l : List Int} (hn : n ≤ 62) (h2 : l.all (isSet n) = true) (h3 : incB l = true) {i : Nat} (hi : i < l.length) : mnP l i = !(l.any (mnC (l.getD i 0))) := by
  have key : ∀ k, k < l.length → (iandn (l.getD k 0) (l.getD i 0) = 0 ↔ iand (l.getD k 0) (l.getD i 0) = l.getD k 0) := fun k hk => by
    rw [iandn_zero (n := n) hn (getD_all h2 hk) (getD_all h2 hi)]
  rw [Bool.eq_iff_iff, Bool.not_eq_true', List.any_eq_false]
  unfold mnP
  simp only [List.all_eq_true, List.mem_range, Bool.or_eq_true, decide_eq_true_eq, Bool.not_eq_true', decide_eq_false_iff_not, mnC, Bool.and_eq_true, not_and]
  constructor
  · intro h x hx hne
    obtain ⟨k, hk, e⟩ := List.getElem_of_mem hx
    have e' : l.getD k 0 = x := by rw [List.getD_eq_getElem?_getD, List.getElem?_eq_getElem hk]; exact e
    subst e'
    rw [key k hk]
    rcases h k hk with h | h
    · subst h; exact absurd rfl hne
    · exact h
  · intro h k hk
    by_cases e : k = i
    · exact .inl e
    · right
      rw [← key k hk]
      refine h _ (mem_getD hk rfl) (fun e' => e (inc_inj h3 hk hi e'))
theorem minV_eq {n : Int} {l : List Int} (hn : n ≤ 62) (h2 : l.all (isSet n) = true) (h3 : incB l = true) : minV l = minW l := pickL_congr fun i hi => mn_eq hn h2 h3 hi
def rangeL (p : Int → Bool) (n : Nat) : List Int := ((List.range n).filter fun (i : Nat) => p (i : Int)).map fun (i : Nat) => (i : Int)
theorem rangeL_yes {p : Int → Bool} {n : Nat} (h : p (n : Int) = true) : rangeL p (n + 1) = rangeL p n ++ [(n : Int)] := by
  unfold rangeL; rw [List.range_succ, List.filter_append, List.map_append]; simp [h]
theorem rangeL_no {p : Int → Bool} {n : Nat} (h : p (n : Int) = false) : rangeL p (n + 1) = rangeL p n := by
  unfold rangeL; rw [List.range_succ, List.filter_append, List.map_append]; simp [h]
theorem rangeL_len (p : Int → Bool) (n : Nat) : (rangeL p n).length ≤ n := by
  unfold rangeL; rw [List.length_map]; exact Nat.le_trans (List.length_filter_le ..) (by simp)
theorem mem_rangeL {p : Int → Bool} {n : Nat} {x : Int} : x ∈ rangeL p n ↔ (0 ≤ x ∧ x < n) ∧ p x = true := by
  unfold rangeL
  simp only [List.mem_map, List.mem_filter, List.mem_range]
  constructor
  · rintro ⟨i, ⟨h1, h2⟩, rfl⟩; exact ⟨by omega, h2⟩
  · rintro ⟨h1, h2⟩
    obtain ⟨i, rfl⟩ := Int.eq_ofNat_of_zero_le h1.1
    exact ⟨i, ⟨by omega, h2⟩, rfl⟩
theorem rangeL_asc (p : Int → Bool) (n : Nat) : (rangeL p n).Pairwise (· < ·) := by
  unfold rangeL
  rw [List.pairwise_map]
  exact (List.Pairwise.filter _ List.pairwise_lt_range).imp (fun h => by omega)
theorem inc_of_asc {l : List Int} (h : l.Pairwise (· < ·)) : incB l = true := inc_true fun j hj => by
  have := List.pairwise_iff_getElem.1 h j (j + 1) (by omega) hj (by omega)
  rw [List.getD_eq_getElem?_getD, List.getD_eq_getElem?_getD, List.getElem?_eq_getElem (by omega), List.getElem?_eq_getElem hj]
  exact this
theorem asc_of_inc {l : List Int} (h : incB l = true) : l.Pairwise (· < ·) := by
  rw [List.pairwise_iff_getElem]
  intro i j hi hj hij
  have := inc_lt h hij hj
  rw [List.getD_eq_getElem?_getD, List.getD_eq_getElem?_getD, List.getElem?_eq_getElem hi, List.getElem?_eq_getElem hj] at this
  exact this
theorem asc_ext : ∀ {l m : List Int}, l.Pairwise (· < ·) → m.Pairwise (· < ·) → (∀ x, x ∈ l ↔ x ∈ m) → l = m
  | [], [], _, _, _ => rfl
  | [], y :: m, _, _, h => absurd ((h y).2 (by simp)) (by simp)
  | x :: l, [], _, _, h => absurd ((h x).1 (by simp)) (by simp)
  | x :: l, y :: m, h1, h2, h => by
    rw [List.pairwise_cons] at h1 h2
    have hxy : x = y := by
      have a := (h x).1 (by simp)
      have b := (h y).2 (by simp)
      rw [List.mem_cons] at a b
      rcases a with a | a
      · exact a
      · rcases b with b | b
        · exact b.symm
        · have := h1.1 y b; have := h2.1 x a; omega
    subst hxy
    rw [asc_ext h1.2 h2.2 fun z => ?_]
    have hz := h z
    rw [List.mem_cons, List.mem_cons] at hz
    constructor
    · intro hm
      rcases hz.1 (.inr hm) with e | e
      · have := h1.1 z hm; omega
      · exact e
    · intro hm
      rcases hz.2 (.inr hm) with e | e
      · have := h2.1 z hm; omega
      · exact e
theorem isSet_range {g : Int} (h0 : 0 ≤ g) {x : Int} : isSet g x = true ↔ 0 ≤ x ∧ x < ((2 ^ g.toNat : Nat) : Int) := by
  rw [isSet_iff]; simp
theorem rangeL_fam {g : Int} (h0 : 0 ≤ g ∧ g ≤ 6) (p : Int → Bool) : famV g (rangeL p (2 ^ g.toNat)) = true := by
  refine famV_yes h0 ?_ (inc_of_asc (rangeL_asc _ _))
  rw [List.all_eq_true]
  intro x hx
  rw [mem_rangeL] at hx
  exact (isSet_range h0.1).2 hx.1
theorem iandn_full {g x : Int} (h0 : 0 ≤ g ∧ g ≤ 62) (hx : isSet g x = true) : iandn (2 ^ g.toNat - 1) x = 2 ^ g.toNat - 1 - x := by
  obtain ⟨a, rfl, ha, ha2⟩ := isSet_nat h0.2 hx
  have hp := pow_le62 (n := g.toNat) (by omega)
  have hp' : (1 : Nat) ≤ 2 ^ g.toNat := Nat.one_le_two_pow
  have e : (2 : Int) ^ g.toNat - 1 = ((2 ^ g.toNat - 1 : Nat) : Int) := by
    rw [Int.natCast_sub hp']; simp
  have hlt : 2 ^ g.toNat - 1 < 9223372036854775808 := by
    have : ((2 ^ g.toNat : Nat) : Int) ≤ 4611686018427387904 := by simpa using hp
    omega
  rw [e, iandn_nat hlt (by omega)]
  have : nandn (2 ^ g.toNat - 1) a = 2 ^ g.toNat - 1 - a := by
    apply Nat.eq_of_testBit_eq
    intro i
    rw [testBit_nandn, show 2 ^ g.toNat - 1 - a = 2 ^ g.toNat - (a + 1) by omega, Nat.testBit_two_pow_sub_succ ha, Nat.testBit_two_pow_sub_one]
  rw [this]
  omega
theorem compl_eq {g : Int} {l : List Int} (h : famV g l = true) : rangeL (fun s => decide (iandn (2 ^ g.toNat - 1) s ∈ l)) (2 ^ g.toNat) = l.reverse.map fun x => 2 ^ g.toNat - 1 - x := by
  rw [famV_iff] at h
  obtain ⟨h1, h2, h3⟩ := h
  have hs : ∀ x ∈ l, isSet g x = true := List.all_eq_true.1 h2
  refine asc_ext (rangeL_asc _ _) ?_ fun x => ?_
  · rw [List.pairwise_map, List.pairwise_reverse]
    exact (asc_of_inc h3).imp (fun h => by omega)
  · rw [mem_rangeL, decide_eq_true_eq, ← isSet_range h1.1]
    simp only [List.mem_map, List.mem_reverse]
    constructor
    · rintro ⟨h4, h5⟩
      rw [iandn_full ⟨h1.1, by omega⟩ h4] at h5
      exact ⟨_, h5, by omega⟩
    · rintro ⟨y, hy, rfl⟩
      have hy' := hs y hy
      rw [isSet_iff] at hy'
      have h6 : isSet g (2 ^ g.toNat - 1 - y) = true := by rw [isSet_iff]; omega
      refine ⟨h6, ?_⟩
      rw [iandn_full ⟨h1.1, by omega⟩ h6, show (2 : Int) ^ g.toNat - 1 - (2 ^ g.toNat - 1 - y) = y by omega]
      exact hy
end Go.Proofs.YthoionlldmfpiaaGreat
