/-
  Bundles of the small facts that a walk uses on its conditions (so that claims stay short).
-/
import Derived.Test.YtjlpjkiadohkiaaAbK
namespace Go.Ab

theorem hsA : (∀ a b : Bool, ((a && b) = true) = (a = true ∧ b = true)) ∧ (∀ a b : Bool, ((a && b) = false) = (a = false ∨ b = false)) ∧ (∀ a b : Bool, ((a || b) = true) = (a = true ∨ b = true)) ∧ (∀ a b : Bool, ((a || b) = false) = (a = false ∧ b = false)) ∧
    (∀ b : Bool, (b && true) = b) ∧ ((¬True) = False) ∧ ((¬False) = True) ∧ ((!true) = false) ∧ ((!false) = true) ∧ (∀ b : Bool, ((!b) = true) = (b = false)) ∧ (∀ b : Bool, ((!b) = false) = (b = true)) ∧ (∀ a b : Int, (¬ a ≤ b) = (b < a)) ∧ (∀ a b : Int, (¬ a < b) = (b ≤ a)) :=
  ⟨by decide, by decide, by decide, by decide, by decide, not_true_eq_false, not_false_eq_true, rfl, rfl, by decide, by decide, fun _ _ => propext Int.not_le, fun _ _ => propext Int.not_lt⟩
theorem hsB {α : Type} [BEq α] [LawfulBEq α] : (∀ a : α, (a == a) = true) ∧ (∀ a b : α, ((a == b) = true) = (a = b)) ∧ (∀ a b : α, ((a == b) = false) = (a ≠ b)) :=
  ⟨fun a => beq_self_eq_true a, fun _ _ => propext beq_iff_eq, fun _ _ => propext beq_eq_false_iff_ne⟩
theorem hsC {p : Prop} [Decidable p] : ((decide p = true) = p) ∧ ((decide p = false) = ¬ p) := ⟨decide_eq_true_eq, propext decide_eq_false_iff_not⟩
theorem hsD : (∀ h : Decidable True, @decide True h = true) ∧ (∀ h : Decidable False, @decide False h = false) := ⟨fun _ => by simp, fun _ => by simp⟩
end Go.Ab
