import Derived.Test.YtjlpjkiadohkiaaHs
import Derived.Test.YtjlpjkiadohkiaaT5
set_option linter.unusedSimpArgs false
set_option linter.unusedVariables false
set_option maxHeartbeats 2000000
namespace Go.Proofs.Ytjlpjkiadohkiaa
open Go Go.Ab
attribute [local irreducible] aol


theorem allR_succ {p : Nat → Bool} {k : Nat} (h : (List.range k).all p = true) (hp : p k = true) : (List.range (k + 1)).all p = true := by
  rw [List.range_succ, List.all_append, h]; simp [hp]
theorem allR_no {p : Nat → Bool} {n k : Nat} (hk : k < n) (hp : p k = false) : (List.range n).all p = false := by
  rw [List.all_eq_false]; exact ⟨k, List.mem_range.2 hk, by rw [hp]; decide⟩
def seek (p : Nat → Bool) : Nat → Nat → Option Nat
  | 0, _ => none
  | n + 1, j => if p j then some j else seek p n (j + 1)
def seek2 {β : Type} (q : Nat → Option β) : Nat → Nat → Option β
  | 0, _ => none
  | n + 1, i => match q i with | some x => some x | none => seek2 q n (i + 1)
theorem seek_at {p : Nat → Bool} {m k : Nat} (h : k < m) : seek p (m - k) k = if p k then some k else seek p (m - (k + 1)) (k + 1) := by
  obtain ⟨n, hn⟩ : ∃ n, m - k = n + 1 := ⟨m - k - 1, by omega⟩
  rw [hn, show m - (k + 1) = n by omega]; rfl
theorem seek2_at {β : Type} {q : Nat → Option β} {m k : Nat} (h : k < m) : seek2 q (m - k) k = match q k with | some x => some x | none => seek2 q (m - (k + 1)) (k + 1) := by
  obtain ⟨n, hn⟩ : ∃ n, m - k = n + 1 := ⟨m - k - 1, by omega⟩
  rw [hn, show m - (k + 1) = n by omega]; rfl
theorem seek_none {p : Nat → Bool} : ∀ {n j : Nat}, seek p n j = none ↔ ∀ k, j ≤ k → k < j + n → p k = false
  | 0, j => by simp [seek]; omega
  | n + 1, j => by
    unfold seek
    cases h : p j with
    | true => simp only [↓reduceIte, reduceCtorEq, false_iff]; intro h'; have := h' j (by omega) (by omega); simp_all
    | false =>
      simp only [Bool.false_eq_true, ↓reduceIte, seek_none (n := n)]
      constructor
      · intro h' k h1 h2
        by_cases e : k = j
        · subst e; exact h
        · exact h' k (by omega) (by omega)
      · intro h' k h1 h2; exact h' k (by omega) (by omega)
theorem seek2_none {β : Type} {q : Nat → Option β} : ∀ {n j : Nat}, seek2 q n j = none ↔ ∀ k, j ≤ k → k < j + n → q k = none
  | 0, j => by simp [seek2]; omega
  | n + 1, j => by
    unfold seek2
    cases h : q j with
    | some x => simp only [reduceCtorEq, false_iff]; intro h'; have := h' j (by omega) (by omega); simp_all
    | none =>
      simp only [seek2_none (n := n)]
      constructor
      · intro h' k h1 h2
        by_cases e : k = j
        · subst e; exact h
        · exact h' k (by omega) (by omega)
      · intro h' k h1 h2; exact h' k (by omega) (by omega)

theorem fin_tmp3 {C : Cfg} {t u v : Tmp} {x y z : AV} {s : ASt} (hr : (AV.tu [x, y, z]).ren [] = .tu [x, y, z]) (h : nth s.fr t = x) (h' : nth s.fr u = y) (h'' : nth s.fr v = z) : FinS C [.tmp t, .tmp u, .tmp v] (.tu [x, y, z]) [] s :=
  ⟨s, Wk.refl s, _, _, rfl, ⟨trivial, trivial, trivial, trivial⟩, [], List.nodup_nil, by rw [hr, ← h, ← h', ← h''], rfl⟩
theorem getD_all {l : List Int} {p : Int → Bool} (h : l.all p = true) {k : Nat} (hk : k < l.length) : p (l.getD k 0) = true := by
  rw [List.all_eq_true] at h
  refine h _ ?_
  rw [List.getD_eq_getElem?_getD, List.getElem?_eq_getElem hk]
  exact List.getElem_mem _
end Go.Proofs.Ytjlpjkiadohkiaa
