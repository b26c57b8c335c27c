/-
  Bundles of the small facts that a walk uses on its conditions (so that claims stay short).
-/
import Derived.Test.YtjlpjkiadohkiaaAbK
namespace Go.Ab

theorem hsA : (∀ a b : Bool, ((a && b) = true) = (a = true ∧ b = true)) ∧ (∀ a b : Bool, ((a && b) = false) = (a = false ∨ b = false)) ∧ (∀ a b : Bool, ((a || b) = true) = (a = true ∨ b = true)) ∧ (∀ a b : Bool, ((a || b) = false) = (a = false ∧ b = false)) ∧
    (∀ b : Bool, (b && true) = b) ∧ ((¬True) = False) ∧ ((¬False) = True) ∧ ((!true) = false) ∧ ((!false) = true) ∧ (∀ b : Bool, ((!b) = true) = (b = false)) ∧ (∀ b : Bool, ((!b) = false) = (b = true)) ∧ (∀ a b : Int, (¬ a ≤ b) = (b < a)) ∧ (∀ a b : Int, (¬ a < b) = (b ≤ a)) :=
  ⟨by decide, by decide, by decide, by decide, by decide, not_true_eq_false, not_false_eq_true, rfl, rfl, by decide, by decide, fun _ _ => propext Int.not_le, fun _ _ => propext Int.not_lt⟩
theorem hsB {α : Type} [BEq α] [LawfulBEq α] : (∀ a : α, (a == a) = true) ∧ (∀ a b : α, ((a == b) = true) = (a = b)) ∧ (∀ a b : α, ((a == b) = false) = (a ≠ b)) :=
  ⟨fun a => beq_self_eq_true a, fun _ _ => propext beq_iff_eq, fun _ _ => propext beq_eq_false_iff_ne⟩
theorem hsC {p : Prop} [Decidable p] : ((decide p = true) = p) ∧ ((decide p = false) = ¬ p) := ⟨decide_eq_true_eq, propext decide_eq_false_iff_not⟩
theorem hsD : (∀ h : Decidable True, @decide True h = true) ∧ (∀ h : Decidable False, @decide False h = false) := ⟨fun _ => by simp, fun _ => by simp⟩
theorem hsE : (∀ n a b : Int, (inR n a b = true) = (a ≤ n ∧ n ≤ b)) ∧ (∀ n a b : Int, (inR n a b = false) = ¬ (a ≤ n ∧ n ≤ b)) ∧ (∀ n s : Int, (isSet n s = true) = (0 ≤ s ∧ s < 2 ^ n.toNat)) ∧ (∀ n s : Int, (isSet n s = false) = ¬ (0 ≤ s ∧ s < 2 ^ n.toNat)) :=
  ⟨fun _ _ _ => inR_iff, fun _ _ _ => inR_not, fun _ _ => isSet_iff, fun _ _ => isSet_not⟩
theorem nxA {Q : Exit → ASt → Prop} : (∀ K s, thn K Q .normal s = K s) ∧ (∀ K s, thn K Q .ret s = Q .ret s) ∧ (∀ K s id, thn K Q (.exit id) s = Q (.exit id) s) ∧ (∀ id s, blkE id Q .normal s = Q .normal s) ∧ (∀ id s, blkE id Q .ret s = Q .ret s) ∧
    (∀ id s, blkE id Q (.exit id) s = Q .normal s) ∧ (∀ id id' s, id' ≠ id → blkE id Q (.exit id') s = Q (.exit id') s) :=
  ⟨fun _ _ => rfl, fun _ _ => rfl, fun _ _ _ => rfl, fun _ _ => rfl, fun _ _ => rfl, fun _ _ => blk_e _ _, fun _ _ s h => blk_x _ _ h s⟩
theorem nxB {C : Cfg} {rs : List ResultVar} {out : AV} {Ho : List AO} : (∀ s, Fin C rs out Ho .normal s = FinS C rs out Ho s) ∧ (∀ s, Fin C rs out Ho .ret s = FinS C rs out Ho s) ∧ (∀ m s, FinM m C rs out Ho .normal s = FinSM m C rs out Ho s) ∧ (∀ m s, FinM m C rs out Ho .ret s = FinSM m C rs out Ho s) :=
  ⟨fun _ => rfl, fun _ => rfl, fun _ _ => rfl, fun _ _ => rfl⟩
end Go.Ab
