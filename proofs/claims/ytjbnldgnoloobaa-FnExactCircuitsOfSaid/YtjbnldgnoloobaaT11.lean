import Derived.Test.YtjbnldgnoloobaaT10
set_option linter.unusedSimpArgs false
set_option linter.unusedVariables false
set_option maxHeartbeats 2000000
namespace Go.Proofs.Ytjbnldgnoloobaa
open Go Go.Ab
attribute [local irreducible] aol


def mnP (l : List Int) (i : Nat) : Bool := (List.range l.length).all fun k => decide (k = i) || !decide (iand (l.getD k 0) (l.getD i 0) = l.getD k 0)
def mnC (s t : Int) : Bool := !decide (t = s) && decide (iandn t s = 0)
def minV (l : List Int) : List Int := pickL (mnP l) l l.length
def minW (l : List Int) : List Int := pickL (fun i => !(l.any (mnC (l.getD i 0)))) l l.length
theorem mn_eq {n : Int} {l : List Int} (hn : n ≤ 62) (h2 : l.all (isSet n) = true) (h3 : incB l = true) {i : Nat} (hi : i < l.length) : mnP l i = !(l.any (mnC (l.getD i 0))) := by
  have key : ∀ k, k < l.length → (iandn (l.getD k 0) (l.getD i 0) = 0 ↔ iand (l.getD k 0) (l.getD i 0) = l.getD k 0) := fun k hk => by
    rw [iandn_zero (n := n) hn (getD_all h2 hk) (getD_all h2 hi)]
  rw [Bool.eq_iff_iff, Bool.not_eq_true', List.any_eq_false]
  unfold mnP
  simp only [List.all_eq_true, List.mem_range, Bool.or_eq_true, decide_eq_true_eq, Bool.not_eq_true', decide_eq_false_iff_not, mnC, Bool.and_eq_true, not_and]
  constructor
  · intro h x hx hne
    obtain ⟨k, hk, e⟩ := List.getElem_of_mem hx
    have e' : l.getD k 0 = x := by rw [List.getD_eq_getElem?_getD, List.getElem?_eq_getElem hk]; exact e
    subst e'
    rw [key k hk]
    rcases h k hk with h | h
    · subst h; exact absurd rfl hne
    · exact h
  · intro h k hk
    by_cases e : k = i
    · exact .inl e
    · right
      rw [← key k hk]
      refine h _ (mem_getD hk rfl) (fun e' => e (inc_inj h3 hk hi e'))
theorem minV_eq {n : Int} {l : List Int} (hn : n ≤ 62) (h2 : l.all (isSet n) = true) (h3 : incB l = true) : minV l = minW l := pickL_congr fun i hi => mn_eq hn h2 h3 hi

def rangeL (p : Int → Bool) (n : Nat) : List Int := ((List.range n).filter fun (i : Nat) => p (i : Int)).map fun (i : Nat) => (i : Int)
theorem rangeL_yes {p : Int → Bool} {n : Nat} (h : p (n : Int) = true) : rangeL p (n + 1) = rangeL p n ++ [(n : Int)] := by
  unfold rangeL; rw [List.range_succ, List.filter_append, List.map_append]; simp [h]
theorem rangeL_no {p : Int → Bool} {n : Nat} (h : p (n : Int) = false) : rangeL p (n + 1) = rangeL p n := by
  unfold rangeL; rw [List.range_succ, List.filter_append, List.map_append]; simp [h]
theorem rangeL_len (p : Int → Bool) (n : Nat) : (rangeL p n).length ≤ n := by
  unfold rangeL; rw [List.length_map]; exact Nat.le_trans (List.length_filter_le ..) (by simp)
theorem mem_rangeL {p : Int → Bool} {n : Nat} {x : Int} : x ∈ rangeL p n ↔ (0 ≤ x ∧ x < n) ∧ p x = true := by
  unfold rangeL
  simp only [List.mem_map, List.mem_filter, List.mem_range]
  constructor
  · rintro ⟨i, ⟨h1, h2⟩, rfl⟩; exact ⟨by omega, h2⟩
  · rintro ⟨h1, h2⟩
    obtain ⟨i, rfl⟩ := Int.eq_ofNat_of_zero_le h1.1
    exact ⟨i, ⟨by omega, h2⟩, rfl⟩
theorem rangeL_asc (p : Int → Bool) (n : Nat) : (rangeL p n).Pairwise (· < ·) := by
  unfold rangeL
  rw [List.pairwise_map]
  exact (List.Pairwise.filter _ List.pairwise_lt_range).imp (fun h => by omega)
theorem inc_of_asc {l : List Int} (h : l.Pairwise (· < ·)) : incB l = true := inc_true fun j hj => by
  have := List.pairwise_iff_getElem.1 h j (j + 1) (by omega) hj (by omega)
  rw [List.getD_eq_getElem?_getD, List.getD_eq_getElem?_getD, List.getElem?_eq_getElem (by omega), List.getElem?_eq_getElem hj]
  exact this
theorem isSet_range {g : Int} (h0 : 0 ≤ g) {x : Int} : isSet g x = true ↔ 0 ≤ x ∧ x < ((2 ^ g.toNat : Nat) : Int) := by
  rw [isSet_iff]; simp
theorem rangeL_fam {g : Int} (h0 : 0 ≤ g ∧ g ≤ 6) (p : Int → Bool) : famV g (rangeL p (2 ^ g.toNat)) = true := by
  refine famV_yes h0 ?_ (inc_of_asc (rangeL_asc _ _))
  rw [List.all_eq_true]
  intro x hx
  rw [mem_rangeL] at hx
  exact (isSet_range h0.1).2 hx.1

end Go.Proofs.Ytjbnldgnoloobaa
