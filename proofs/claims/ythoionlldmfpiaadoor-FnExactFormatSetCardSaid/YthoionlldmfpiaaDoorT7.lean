import Derived.Test.YthoionlldmfpiaaDoorHs
import Derived.Test.YthoionlldmfpiaaDoorT4
set_option linter.unusedSimpArgs false
set_option linter.unusedVariables false
set_option maxHeartbeats 2000000
namespace Go.Proofs.YthoionlldmfpiaaDoor
open Go Go.Ab
attribute [local irreducible] aol
def seek (p : Nat → Bool) : Nat → Nat → Option Nat
  | 0, _ => none
  | n + 1, j => if p j then some j else seek p n (j + 1)
def seek2 {β : Type} (q : Nat → Option β) : Nat → Nat → Option β
  | 0, _ => none
  | n + 1, i => match q i with | some x => some x | none => seek2 q n (i + 1)
def firstJ (l : List Int) (i : Nat) : Option Nat := seek (fun j => clashV (l.getD i 0) (l.getD j 0)) (l.length - (i + 1)) (i + 1)
def firstV (l : List Int) : Option (Nat × Nat) := seek2 (fun i => (firstJ l i).map (i, ·)) l.length 0
end Go.Proofs.YthoionlldmfpiaaDoor
