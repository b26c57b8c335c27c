/-
  AN ABSTRACT MACHINE, part K: long bodies in parts.
-/
import Derived.Test.YthoionlldmfpiaaDoorAbJ
set_option linter.unusedSimpArgs false
set_option linter.unusedVariables false
namespace Go.Ab
open Go Go.RowKit

/-- A body behind its first n statements. -/
def restN : Nat → Code → Code
  | 0, x => x
  | n + 1, .seq _ b => restN n b
  | _ + 1, x => x
inductive Rest : Nat → Code → Code → Prop where
  | zero (x : Code) : Rest 0 x x
  | succ (n : Nat) (a b y : Code) (h : Rest n b y) : Rest (n + 1) (.seq a b) y
theorem Rest.eq {n : Nat} {x y : Code} (h : Rest n x y) : restN n x = y := by
  induction h with
  | zero x => rfl
  | succ n a b y _ ih => exact ih
theorem awp_rest {c : Cx} {C : Cfg} {Q : Exit → ASt → Prop} {s : ASt} {fn : Func} {x y : Code} {n : Nat} (hb : fn.body = some x) (hr : Rest n x y) (h : Awp c C y Q s) : Awp c C (restN n (Option.getD fn.body .ret)) Q s := by
  rw [hb]
  show Awp c C (restN n x) Q s
  rw [hr.eq]; exact h
/-- A frame that knows these slots alone. -/
def frOf (n : Nat) (us : List (Nat × AV)) : List AV := updAll (List.replicate n .any) us
theorem awp_ler {c : Cx} {C : Cfg} {Q : Exit → ASt → Prop} {s s2 : ASt} {x : Code} (m : Nat) (hL : ∀ j x, c.L j = some x → j < m) (h : ∃ σ, LeR m s2 s σ) (hx : Awp c C x Q s2) : Awp c C x Q s := by
  obtain ⟨σ, h⟩ := h
  exact ⟨fun ok a w ρ hr => hx.run ok a w _ (hr.ler hL h)⟩
/-- A walk stands here. -/
def Halt (p : Prop) : Prop := p
theorem halt {p : Prop} (h : Halt p) : p := h
theorem halted {p : Prop} (h : p) : Halt p := h
end Go.Ab
