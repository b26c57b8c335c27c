import Derived.Test.YtkkmjpeolfmapaaT10
set_option linter.unusedSimpArgs false
set_option linter.unusedVariables false
set_option maxHeartbeats 2000000
namespace Go.Proofs.Ytkkmjpeolfmapaa
open Go Go.Ab
attribute [local irreducible] aol


def mnP (l : List Int) (i : Nat) : Bool := (List.range l.length).all fun k => decide (k = i) || !decide (iand (l.getD k 0) (l.getD i 0) = l.getD k 0)
def mnC (s t : Int) : Bool := !decide (t = s) && decide (iandn t s = 0)
def minV (l : List Int) : List Int := pickL (mnP l) l l.length
def minW (l : List Int) : List Int := pickL (fun i => !(l.any (mnC (l.getD i 0)))) l l.length
theorem mn_eq {n : Int} {l : List Int} (hn : n ≤ 62) (h2 : l.all (isSet n) = true) (h3 : incB l = true) {i : Nat} (hi : i < l.length) : mnP l i = !(l.any (mnC (l.getD i 0))) := by
  have key : ∀ k, k < l.length → (iandn (l.getD k 0) (l.getD i 0) = 0 ↔ iand (l.getD k 0) (l.getD i 0) = l.getD k 0) := fun k hk => by
    rw [iandn_zero (n := n) hn (getD_all h2 hk) (getD_all h2 hi)]
  rw [Bool.eq_iff_iff, Bool.not_eq_true', List.any_eq_false]
  unfold mnP
  simp only [List.all_eq_true, List.mem_range, Bool.or_eq_true, decide_eq_true_eq, Bool.not_eq_true', decide_eq_false_iff_not, mnC, Bool.and_eq_true, not_and]
  constructor
  · intro h x hx hne
    obtain ⟨k, hk, e⟩ := List.getElem_of_mem hx
    have e' : l.getD k 0 = x := by rw [List.getD_eq_getElem?_getD, List.getElem?_eq_getElem hk]; exact e
    subst e'
    rw [key k hk]
    rcases h k hk with h | h
    · subst h; exact absurd rfl hne
    · exact h
  · intro h k hk
    by_cases e : k = i
    · exact .inl e
    · right
      rw [← key k hk]
      refine h _ (mem_getD hk rfl) (fun e' => e (inc_inj h3 hk hi e'))
theorem minV_eq {n : Int} {l : List Int} (hn : n ≤ 62) (h2 : l.all (isSet n) = true) (h3 : incB l = true) : minV l = minW l := pickL_congr fun i hi => mn_eq hn h2 h3 hi

end Go.Proofs.Ytkkmjpeolfmapaa
