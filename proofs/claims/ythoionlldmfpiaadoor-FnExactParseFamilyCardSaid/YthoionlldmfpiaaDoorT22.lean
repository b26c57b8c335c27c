import Derived.Test.YthoionlldmfpiaaDoorHs
import Derived.Test.YthoionlldmfpiaaDoorT13
set_option linter.unusedSimpArgs false
set_option linter.unusedVariables false
set_option maxHeartbeats 2000000
namespace Go.Proofs.YthoionlldmfpiaaDoor
open Go Go.Ab
attribute [local irreducible] aol
theorem ibit_all : ((List.range 64).all fun s => (List.range 7).all fun e => decide (iand (ishr (s : Int) (e : Int)) 1 = if Nat.testBit s e then 1 else 0)) = true := by kernel_rfl
theorem ibit {s e : Nat} (hs : s < 64) (he : e < 7) : iand (ishr (s : Int) (e : Int)) 1 = if Nat.testBit s e then 1 else 0 := of_decide_eq_true (List.all_eq_true.1 (List.all_eq_true.1 ibit_all s (List.mem_range.2 hs)) e (List.mem_range.2 he))
end Go.Proofs.YthoionlldmfpiaaDoor
