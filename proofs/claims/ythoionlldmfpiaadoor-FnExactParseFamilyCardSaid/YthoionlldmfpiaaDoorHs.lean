/-
  Bundles of the small facts that a walk uses on its conditions (so that claims stay short).
-/
import Derived.Test.YthoionlldmfpiaaDoorAbK
import Derived.Test.YthoionlldmfpiaaDoorBits
namespace Go.Ab

theorem hsA : (∀ a b : Bool, ((a && b) = true) = (a = true ∧ b = true)) ∧ (∀ a b : Bool, ((a && b) = false) = (a = false ∨ b = false)) ∧ (∀ a b : Bool, ((a || b) = true) = (a = true ∨ b = true)) ∧ (∀ a b : Bool, ((a || b) = false) = (a = false ∧ b = false)) ∧
    (∀ b : Bool, (b && true) = b) ∧ ((¬True) = False) ∧ ((¬False) = True) ∧ ((!true) = false) ∧ ((!false) = true) ∧ (∀ b : Bool, ((!b) = true) = (b = false)) ∧ (∀ b : Bool, ((!b) = false) = (b = true)) ∧ (∀ a b : Int, (¬ a ≤ b) = (b < a)) ∧ (∀ a b : Int, (¬ a < b) = (b ≤ a)) :=
  ⟨by decide, by decide, by decide, by decide, by decide, not_true_eq_false, not_false_eq_true, rfl, rfl, by decide, by decide, fun _ _ => propext Int.not_le, fun _ _ => propext Int.not_lt⟩
theorem hsB {α : Type} [BEq α] [LawfulBEq α] : (∀ a : α, (a == a) = true) ∧ (∀ a b : α, ((a == b) = true) = (a = b)) ∧ (∀ a b : α, ((a == b) = false) = (a ≠ b)) :=
  ⟨fun a => beq_self_eq_true a, fun _ _ => propext beq_iff_eq, fun _ _ => propext beq_eq_false_iff_ne⟩
theorem hsC {p : Prop} [Decidable p] : ((decide p = true) = p) ∧ ((decide p = false) = ¬ p) := ⟨decide_eq_true_eq, propext decide_eq_false_iff_not⟩
theorem hsD : (∀ h : Decidable True, @decide True h = true) ∧ (∀ h : Decidable False, @decide False h = false) := ⟨fun _ => by simp, fun _ => by simp⟩
theorem hsE : (∀ n a b : Int, (inR n a b = true) = (a ≤ n ∧ n ≤ b)) ∧ (∀ n a b : Int, (inR n a b = false) = ¬ (a ≤ n ∧ n ≤ b)) ∧ (∀ n s : Int, (isSet n s = true) = (0 ≤ s ∧ s < 2 ^ n.toNat)) ∧ (∀ n s : Int, (isSet n s = false) = ¬ (0 ≤ s ∧ s < 2 ^ n.toNat)) :=
  ⟨fun _ _ _ => inR_iff, fun _ _ _ => inR_not, fun _ _ => isSet_iff, fun _ _ => isSet_not⟩
theorem nxA {Q : Exit → ASt → Prop} : (∀ K s, thn K Q .normal s = K s) ∧ (∀ K s, thn K Q .ret s = Q .ret s) ∧ (∀ K s id, thn K Q (.exit id) s = Q (.exit id) s) ∧ (∀ id s, blkE id Q .normal s = Q .normal s) ∧ (∀ id s, blkE id Q .ret s = Q .ret s) ∧
    (∀ id s, blkE id Q (.exit id) s = Q .normal s) ∧ (∀ id id' s, id' ≠ id → blkE id Q (.exit id') s = Q (.exit id') s) :=
  ⟨fun _ _ => rfl, fun _ _ => rfl, fun _ _ _ => rfl, fun _ _ => rfl, fun _ _ => rfl, fun _ _ => blk_e _ _, fun _ _ s h => blk_x _ _ h s⟩
theorem nxB {C : Cfg} {rs : List ResultVar} {out : AV} {Ho : List AO} : (∀ s, Fin C rs out Ho .normal s = FinS C rs out Ho s) ∧ (∀ s, Fin C rs out Ho .ret s = FinS C rs out Ho s) ∧ (∀ m s, FinM m C rs out Ho .normal s = FinSM m C rs out Ho s) ∧ (∀ m s, FinM m C rs out Ho .ret s = FinSM m C rs out Ho s) :=
  ⟨fun _ => rfl, fun _ => rfl, fun _ _ => rfl, fun _ _ => rfl⟩
theorem hsF {α : Type} : (∀ (p : α → Bool) (a : α) (l : List α), (a :: l).all p = (p a && l.all p)) ∧ (∀ p : α → Bool, ([] : List α).all p = true) ∧ (∀ a b : α, (a ≠ b) = ¬ (a = b)) := ⟨fun _ _ _ => rfl, fun _ => rfl, fun _ _ => rfl⟩
theorem lsA {α : Type} : (∀ (a : α) (l : List α), (a :: l).length = l.length + 1) ∧ (([] : List α).length = 0) ∧ (∀ (a : α) (l m : List α), (a :: l) ++ m = a :: (l ++ m)) ∧ (∀ m : List α, [] ++ m = m) := ⟨fun _ _ => rfl, rfl, fun _ _ _ => rfl, fun _ => rfl⟩
theorem gdA {α : Type} : (∀ (a d : α) (l : List α), (a :: l).getD 0 d = a) ∧ (∀ (a d : α) (l : List α) (n : Nat), (a :: l).getD (n + 1) d = l.getD n d) := ⟨fun _ _ _ => rfl, fun _ _ _ _ => rfl⟩
theorem hsX : ((∀ a b : Bool, ((a && b) = true) = (a = true ∧ b = true)) ∧ (∀ a b : Bool, ((a && b) = false) = (a = false ∨ b = false)) ∧ (∀ a b : Bool, ((a || b) = true) = (a = true ∨ b = true)) ∧ (∀ a b : Bool, ((a || b) = false) = (a = false ∧ b = false)) ∧
    (∀ b : Bool, (b && true) = b) ∧ ((¬True) = False) ∧ ((¬False) = True) ∧ ((!true) = false) ∧ ((!false) = true) ∧ (∀ b : Bool, ((!b) = true) = (b = false)) ∧ (∀ b : Bool, ((!b) = false) = (b = true)) ∧ (∀ a b : Int, (¬ a ≤ b) = (b < a)) ∧ (∀ a b : Int, (¬ a < b) = (b ≤ a))) ∧
    (∀ {α : Type} [BEq α] [LawfulBEq α], (∀ a : α, (a == a) = true) ∧ (∀ a b : α, ((a == b) = true) = (a = b)) ∧ (∀ a b : α, ((a == b) = false) = (a ≠ b))) ∧ (∀ {p : Prop} [Decidable p], ((decide p = true) = p) ∧ ((decide p = false) = ¬ p)) ∧
    ((∀ h : Decidable True, @decide True h = true) ∧ (∀ h : Decidable False, @decide False h = false)) ∧
    ((∀ n a b : Int, (inR n a b = true) = (a ≤ n ∧ n ≤ b)) ∧ (∀ n a b : Int, (inR n a b = false) = ¬ (a ≤ n ∧ n ≤ b)) ∧ (∀ n s : Int, (isSet n s = true) = (0 ≤ s ∧ s < 2 ^ n.toNat)) ∧ (∀ n s : Int, (isSet n s = false) = ¬ (0 ≤ s ∧ s < 2 ^ n.toNat))) ∧
    (∀ {α : Type}, (∀ (p : α → Bool) (a : α) (l : List α), (a :: l).all p = (p a && l.all p)) ∧ (∀ p : α → Bool, ([] : List α).all p = true) ∧ (∀ a b : α, (a ≠ b) = ¬ (a = b))) :=
  ⟨hsA, hsB, hsC, hsD, hsE, hsF⟩
theorem nx : (∀ {Q : Exit → ASt → Prop}, (∀ K s, thn K Q .normal s = K s) ∧ (∀ K s, thn K Q .ret s = Q .ret s) ∧ (∀ K s id, thn K Q (.exit id) s = Q (.exit id) s) ∧ (∀ id s, blkE id Q .normal s = Q .normal s) ∧ (∀ id s, blkE id Q .ret s = Q .ret s) ∧
    (∀ id s, blkE id Q (.exit id) s = Q .normal s) ∧ (∀ id id' s, id' ≠ id → blkE id Q (.exit id') s = Q (.exit id') s)) ∧
    (∀ {C : Cfg} {rs : List ResultVar} {out : AV} {Ho : List AO}, (∀ s, Fin C rs out Ho .normal s = FinS C rs out Ho s) ∧ (∀ s, Fin C rs out Ho .ret s = FinS C rs out Ho s) ∧ (∀ m s, FinM m C rs out Ho .normal s = FinSM m C rs out Ho s) ∧ (∀ m s, FinM m C rs out Ho .ret s = FinSM m C rs out Ho s)) := ⟨nxA, nxB⟩
theorem fmA {α : Type} : (∀ (p : α → Prop) (a : α) (l : List α), (∀ x, x ∈ a :: l → p x) = (p a ∧ ∀ x, x ∈ l → p x)) ∧ (∀ p : α → Prop, (∀ x, x ∈ ([] : List α) → p x) = True) ∧ (∀ q : Prop, (q ∧ True) = q) :=
  ⟨fun _ _ _ => propext List.forall_mem_cons, fun _ => by simp, fun _ => and_true _⟩
theorem lgA : (∀ p : Prop, (p ∨ False) = p) ∧ (∀ p : Prop, (p ∨ True) = True) ∧ (∀ p : Prop, (False ∨ p) = p) ∧ (∀ p : Prop, (True ∨ p) = True) ∧ (∀ (a b : Nat) (l : List Nat), (a ∈ b :: l) = (a = b ∨ a ∈ l)) ∧ (∀ a : Nat, (a ∈ ([] : List Nat)) = False) :=
  ⟨or_false, or_true, false_or, true_or, fun _ _ _ => propext List.mem_cons, fun _ => by simp⟩
theorem gF : type_of% @aol_guard_f := @aol_guard_f
theorem gU : type_of% @aol_guard_un := @aol_guard_un
theorem gT : type_of% @aol_guard_t := @aol_guard_t
theorem gB : type_of% @aol_guard_b := @aol_guard_b
theorem rK : type_of% @awp_regK := @awp_regK
theorem dK : type_of% @awp_drwK := @awp_drwK
theorem aS : type_of% @awp_seq := @awp_seq
theorem aB : type_of% @awp_block := @awp_block
theorem aC : type_of% @awp_cond := @awp_cond
theorem aK : type_of% @awp_skip := @awp_skip
theorem aR : type_of% @awp_ret := @awp_ret
theorem aE : type_of% @awp_exit := @awp_exit
theorem fK : type_of% @fin_keep := @fin_keep
theorem fM : type_of% @finm_keep := @finm_keep
end Go.Ab
