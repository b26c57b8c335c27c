/-
  No cell of these rows narrows 'for every input' (looked for: loops, veiled, ifaces, maps, wideKeys, modest, calm, conditions, laid).
  DERIVED. THE GIVEN ROWS OF THIS SEAT. 12 by the template 'for every input the law returns true; each argument reads behind the call as it read before'; 0 by the template 'total and deterministic' (their statements: YtkkmjpeolfmapaaTotals.lean).
  GIVEN WITH THE SEED: the statements are not yours to turn. If you find one false, say at which input.
  Laid BY PROGRAM, IN A SANDBOX (cutbox-rows.mjs): the forced cells as the released guide's own fill.sh prints them over the translation 41b50eb5a068113b… (all of the seat's roots in one cut). By AI agents, Wed Nov 11 2026. No macro, syntax, notation, axiom, sorry.
-/
import Derived.Test.YtkkmjpeolfmapaaChecked
import GoSem.Claim
import GoSem.ClaimJoined
import GoSem.ClaimMapViews
import Derived.JoinedTies
import Derived.KernelRfl
namespace Go.Proofs.Ytkkmjpeolfmapaa
/- THE CELL 'sum', in the pinned program and in every row, IS THE sha256 OF THE DUMP (.gsa) THAT YtkkmjpeolfmapaaProg.lean LOADS. Nothing in Lean hashes anything: it is a label: what it is worth is what the hold of that sum in a sandbox is worth. -/
noncomputable def Try.pinned : Pinned := { name := "ytkkmjpeolfmapaa", sum := "41b50eb5a068113ba1d6219c124a8b9e19287e82f9c5790855753029ad5ecca1", checked := Try.checked }
namespace Rows
def none {H : Type} : Left H := { results := [], args := [] }

/-- 'laws.FnExactMinimalSets': WHATEVER THE INPUT: true; the input reads as it did. -/
def fnExactMinimalSetsSpec : ChangeSpec := { name := "fnExactMinimalSets", fn := fun _ => fun
  | [d] => { results := [.lit (.bool true)], args := [d] }
  | _ => none }
def fnExactMinimalSetsRow : OpenClaim := { program := "ytkkmjpeolfmapaa", sum := "41b50eb5a068113ba1d6219c124a8b9e19287e82f9c5790855753029ad5ecca1", func := "loop.example/g03405/laws.FnExactMinimalSets", spec := "fnExactMinimalSets", unfollowed := true, recurses := true, apart := false }
def FnExactMinimalSetsSaid : Prop := fnExactMinimalSetsRow.holds Try.pinned (OpenSpec.ofChange fnExactMinimalSetsSpec)

/-- ITS FALSE NEIGHBOUR: 'it returns false'. Refute it at one input. -/
def fnExactMinimalSetsWrong : ChangeSpec := { name := "fnExactMinimalSets", fn := fun _ => fun
  | [d] => { results := [.lit (.bool false)], args := [d] }
  | _ => none }
def FnExactMinimalSetsWrongFalsely : Prop := fnExactMinimalSetsRow.holds Try.pinned (OpenSpec.ofChange fnExactMinimalSetsWrong)

/-- 'laws.FnExactComplementFamily': WHATEVER THE INPUT: true; the input reads as it did. -/
def fnExactComplementFamilySpec : ChangeSpec := { name := "fnExactComplementFamily", fn := fun _ => fun
  | [d] => { results := [.lit (.bool true)], args := [d] }
  | _ => none }
def fnExactComplementFamilyRow : OpenClaim := { program := "ytkkmjpeolfmapaa", sum := "41b50eb5a068113ba1d6219c124a8b9e19287e82f9c5790855753029ad5ecca1", func := "loop.example/g03405/laws.FnExactComplementFamily", spec := "fnExactComplementFamily", unfollowed := true, recurses := true, apart := false }
def FnExactComplementFamilySaid : Prop := fnExactComplementFamilyRow.holds Try.pinned (OpenSpec.ofChange fnExactComplementFamilySpec)

/-- ITS FALSE NEIGHBOUR: 'it returns false'. Refute it at one input. -/
def fnExactComplementFamilyWrong : ChangeSpec := { name := "fnExactComplementFamily", fn := fun _ => fun
  | [d] => { results := [.lit (.bool false)], args := [d] }
  | _ => none }
def FnExactComplementFamilyWrongFalsely : Prop := fnExactComplementFamilyRow.holds Try.pinned (OpenSpec.ofChange fnExactComplementFamilyWrong)

/-- 'laws.FnExactIsMatroidRank': WHATEVER THE INPUT: true; the input reads as it did. -/
def fnExactIsMatroidRankSpec : ChangeSpec := { name := "fnExactIsMatroidRank", fn := fun _ => fun
  | [d] => { results := [.lit (.bool true)], args := [d] }
  | _ => none }
def fnExactIsMatroidRankRow : OpenClaim := { program := "ytkkmjpeolfmapaa", sum := "41b50eb5a068113ba1d6219c124a8b9e19287e82f9c5790855753029ad5ecca1", func := "loop.example/g03405/laws.FnExactIsMatroidRank", spec := "fnExactIsMatroidRank", unfollowed := true, recurses := true, apart := false }
def FnExactIsMatroidRankSaid : Prop := fnExactIsMatroidRankRow.holds Try.pinned (OpenSpec.ofChange fnExactIsMatroidRankSpec)

/-- ITS FALSE NEIGHBOUR: 'it returns false'. Refute it at one input. -/
def fnExactIsMatroidRankWrong : ChangeSpec := { name := "fnExactIsMatroidRank", fn := fun _ => fun
  | [d] => { results := [.lit (.bool false)], args := [d] }
  | _ => none }
def FnExactIsMatroidRankWrongFalsely : Prop := fnExactIsMatroidRankRow.holds Try.pinned (OpenSpec.ofChange fnExactIsMatroidRankWrong)

/-- 'laws.FnExactGreedyTransversal': WHATEVER THE INPUT: true; the input reads as it did. -/
def fnExactGreedyTransversalSpec : ChangeSpec := { name := "fnExactGreedyTransversal", fn := fun _ => fun
  | [d] => { results := [.lit (.bool true)], args := [d] }
  | _ => none }
def fnExactGreedyTransversalRow : OpenClaim := { program := "ytkkmjpeolfmapaa", sum := "41b50eb5a068113ba1d6219c124a8b9e19287e82f9c5790855753029ad5ecca1", func := "loop.example/g03405/laws.FnExactGreedyTransversal", spec := "fnExactGreedyTransversal", apart := false }
def FnExactGreedyTransversalSaid : Prop := fnExactGreedyTransversalRow.holds Try.pinned (OpenSpec.ofChange fnExactGreedyTransversalSpec)

/-- ITS FALSE NEIGHBOUR: 'it returns false'. Refute it at one input. -/
def fnExactGreedyTransversalWrong : ChangeSpec := { name := "fnExactGreedyTransversal", fn := fun _ => fun
  | [d] => { results := [.lit (.bool false)], args := [d] }
  | _ => none }
def FnExactGreedyTransversalWrongFalsely : Prop := fnExactGreedyTransversalRow.holds Try.pinned (OpenSpec.ofChange fnExactGreedyTransversalWrong)

/-- 'laws.FnExactIsBasisFamily': WHATEVER THE INPUT: true; the input reads as it did. -/
def fnExactIsBasisFamilySpec : ChangeSpec := { name := "fnExactIsBasisFamily", fn := fun _ => fun
  | [d] => { results := [.lit (.bool true)], args := [d] }
  | _ => none }
def fnExactIsBasisFamilyRow : OpenClaim := { program := "ytkkmjpeolfmapaa", sum := "41b50eb5a068113ba1d6219c124a8b9e19287e82f9c5790855753029ad5ecca1", func := "loop.example/g03405/laws.FnExactIsBasisFamily", spec := "fnExactIsBasisFamily", unfollowed := true, recurses := true, apart := false }
def FnExactIsBasisFamilySaid : Prop := fnExactIsBasisFamilyRow.holds Try.pinned (OpenSpec.ofChange fnExactIsBasisFamilySpec)

/-- ITS FALSE NEIGHBOUR: 'it returns false'. Refute it at one input. -/
def fnExactIsBasisFamilyWrong : ChangeSpec := { name := "fnExactIsBasisFamily", fn := fun _ => fun
  | [d] => { results := [.lit (.bool false)], args := [d] }
  | _ => none }
def FnExactIsBasisFamilyWrongFalsely : Prop := fnExactIsBasisFamilyRow.holds Try.pinned (OpenSpec.ofChange fnExactIsBasisFamilyWrong)

/-- 'laws.FnExactBlockerOf': WHATEVER THE INPUT: true; the input reads as it did. -/
def fnExactBlockerOfSpec : ChangeSpec := { name := "fnExactBlockerOf", fn := fun _ => fun
  | [d] => { results := [.lit (.bool true)], args := [d] }
  | _ => none }
def fnExactBlockerOfRow : OpenClaim := { program := "ytkkmjpeolfmapaa", sum := "41b50eb5a068113ba1d6219c124a8b9e19287e82f9c5790855753029ad5ecca1", func := "loop.example/g03405/laws.FnExactBlockerOf", spec := "fnExactBlockerOf", unfollowed := true, recurses := true, apart := false }
def FnExactBlockerOfSaid : Prop := fnExactBlockerOfRow.holds Try.pinned (OpenSpec.ofChange fnExactBlockerOfSpec)

/-- ITS FALSE NEIGHBOUR: 'it returns false'. Refute it at one input. -/
def fnExactBlockerOfWrong : ChangeSpec := { name := "fnExactBlockerOf", fn := fun _ => fun
  | [d] => { results := [.lit (.bool false)], args := [d] }
  | _ => none }
def FnExactBlockerOfWrongFalsely : Prop := fnExactBlockerOfRow.holds Try.pinned (OpenSpec.ofChange fnExactBlockerOfWrong)

/-- 'laws.FnExactDepthsIn': WHATEVER THE INPUT: true; the input reads as it did. -/
def fnExactDepthsInSpec : ChangeSpec := { name := "fnExactDepthsIn", fn := fun _ => fun
  | [d] => { results := [.lit (.bool true)], args := [d] }
  | _ => none }
def fnExactDepthsInRow : OpenClaim := { program := "ytkkmjpeolfmapaa", sum := "41b50eb5a068113ba1d6219c124a8b9e19287e82f9c5790855753029ad5ecca1", func := "loop.example/g03405/laws.FnExactDepthsIn", spec := "fnExactDepthsIn", apart := false }
def FnExactDepthsInSaid : Prop := fnExactDepthsInRow.holds Try.pinned (OpenSpec.ofChange fnExactDepthsInSpec)

/-- ITS FALSE NEIGHBOUR: 'it returns false'. Refute it at one input. -/
def fnExactDepthsInWrong : ChangeSpec := { name := "fnExactDepthsIn", fn := fun _ => fun
  | [d] => { results := [.lit (.bool false)], args := [d] }
  | _ => none }
def FnExactDepthsInWrongFalsely : Prop := fnExactDepthsInRow.holds Try.pinned (OpenSpec.ofChange fnExactDepthsInWrong)

/-- 'laws.FnExactCommonBound': WHATEVER THE INPUT: true; the input reads as it did. -/
def fnExactCommonBoundSpec : ChangeSpec := { name := "fnExactCommonBound", fn := fun _ => fun
  | [d1, d2] => { results := [.lit (.bool true)], args := [d1, d2] }
  | _ => none }
def fnExactCommonBoundRow : OpenClaim := { program := "ytkkmjpeolfmapaa", sum := "41b50eb5a068113ba1d6219c124a8b9e19287e82f9c5790855753029ad5ecca1", func := "loop.example/g03405/laws.FnExactCommonBound", spec := "fnExactCommonBound", unfollowed := true, recurses := true, apart := false }
def FnExactCommonBoundSaid : Prop := fnExactCommonBoundRow.holds Try.pinned (OpenSpec.ofChange fnExactCommonBoundSpec)

/-- ITS FALSE NEIGHBOUR: 'it returns false'. Refute it at one input. -/
def fnExactCommonBoundWrong : ChangeSpec := { name := "fnExactCommonBound", fn := fun _ => fun
  | [d1, d2] => { results := [.lit (.bool false)], args := [d1, d2] }
  | _ => none }
def FnExactCommonBoundWrongFalsely : Prop := fnExactCommonBoundRow.holds Try.pinned (OpenSpec.ofChange fnExactCommonBoundWrong)

/-- 'laws.FnExactIsIndependent': WHATEVER THE INPUT: true; the input reads as it did. -/
def fnExactIsIndependentSpec : ChangeSpec := { name := "fnExactIsIndependent", fn := fun _ => fun
  | [d1, d2] => { results := [.lit (.bool true)], args := [d1, d2] }
  | _ => none }
def fnExactIsIndependentRow : OpenClaim := { program := "ytkkmjpeolfmapaa", sum := "41b50eb5a068113ba1d6219c124a8b9e19287e82f9c5790855753029ad5ecca1", func := "loop.example/g03405/laws.FnExactIsIndependent", spec := "fnExactIsIndependent", unfollowed := true, recurses := true, apart := false }
def FnExactIsIndependentSaid : Prop := fnExactIsIndependentRow.holds Try.pinned (OpenSpec.ofChange fnExactIsIndependentSpec)

/-- ITS FALSE NEIGHBOUR: 'it returns false'. Refute it at one input. -/
def fnExactIsIndependentWrong : ChangeSpec := { name := "fnExactIsIndependent", fn := fun _ => fun
  | [d1, d2] => { results := [.lit (.bool false)], args := [d1, d2] }
  | _ => none }
def FnExactIsIndependentWrongFalsely : Prop := fnExactIsIndependentRow.holds Try.pinned (OpenSpec.ofChange fnExactIsIndependentWrong)

/-- 'laws.FnExactTransversalNumber': WHATEVER THE INPUT: true; the input reads as it did. -/
def fnExactTransversalNumberSpec : ChangeSpec := { name := "fnExactTransversalNumber", fn := fun _ => fun
  | [d] => { results := [.lit (.bool true)], args := [d] }
  | _ => none }
def fnExactTransversalNumberRow : OpenClaim := { program := "ytkkmjpeolfmapaa", sum := "41b50eb5a068113ba1d6219c124a8b9e19287e82f9c5790855753029ad5ecca1", func := "loop.example/g03405/laws.FnExactTransversalNumber", spec := "fnExactTransversalNumber", unfollowed := true, recurses := true, apart := false }
def FnExactTransversalNumberSaid : Prop := fnExactTransversalNumberRow.holds Try.pinned (OpenSpec.ofChange fnExactTransversalNumberSpec)

/-- ITS FALSE NEIGHBOUR: 'it returns false'. Refute it at one input. -/
def fnExactTransversalNumberWrong : ChangeSpec := { name := "fnExactTransversalNumber", fn := fun _ => fun
  | [d] => { results := [.lit (.bool false)], args := [d] }
  | _ => none }
def FnExactTransversalNumberWrongFalsely : Prop := fnExactTransversalNumberRow.holds Try.pinned (OpenSpec.ofChange fnExactTransversalNumberWrong)

/-- 'laws.FnExactParentsIn': WHATEVER THE INPUT: true; the input reads as it did. -/
def fnExactParentsInSpec : ChangeSpec := { name := "fnExactParentsIn", fn := fun _ => fun
  | [d] => { results := [.lit (.bool true)], args := [d] }
  | _ => none }
def fnExactParentsInRow : OpenClaim := { program := "ytkkmjpeolfmapaa", sum := "41b50eb5a068113ba1d6219c124a8b9e19287e82f9c5790855753029ad5ecca1", func := "loop.example/g03405/laws.FnExactParentsIn", spec := "fnExactParentsIn", apart := false }
def FnExactParentsInSaid : Prop := fnExactParentsInRow.holds Try.pinned (OpenSpec.ofChange fnExactParentsInSpec)

/-- ITS FALSE NEIGHBOUR: 'it returns false'. Refute it at one input. -/
def fnExactParentsInWrong : ChangeSpec := { name := "fnExactParentsIn", fn := fun _ => fun
  | [d] => { results := [.lit (.bool false)], args := [d] }
  | _ => none }
def FnExactParentsInWrongFalsely : Prop := fnExactParentsInRow.holds Try.pinned (OpenSpec.ofChange fnExactParentsInWrong)

/-- 'laws.FnExactIsCommon': WHATEVER THE INPUT: true; the input reads as it did. -/
def fnExactIsCommonSpec : ChangeSpec := { name := "fnExactIsCommon", fn := fun _ => fun
  | [d1, d2, d3] => { results := [.lit (.bool true)], args := [d1, d2, d3] }
  | _ => none }
def fnExactIsCommonRow : OpenClaim := { program := "ytkkmjpeolfmapaa", sum := "41b50eb5a068113ba1d6219c124a8b9e19287e82f9c5790855753029ad5ecca1", func := "loop.example/g03405/laws.FnExactIsCommon", spec := "fnExactIsCommon", unfollowed := true, recurses := true, apart := false }
def FnExactIsCommonSaid : Prop := fnExactIsCommonRow.holds Try.pinned (OpenSpec.ofChange fnExactIsCommonSpec)

/-- ITS FALSE NEIGHBOUR: 'it returns false'. Refute it at one input. -/
def fnExactIsCommonWrong : ChangeSpec := { name := "fnExactIsCommon", fn := fun _ => fun
  | [d1, d2, d3] => { results := [.lit (.bool false)], args := [d1, d2, d3] }
  | _ => none }
def FnExactIsCommonWrongFalsely : Prop := fnExactIsCommonRow.holds Try.pinned (OpenSpec.ofChange fnExactIsCommonWrong)

/- THE SECOND FORM. 'bulk': how many values and letters a reading holds, each counted each time it is reached (what is shared counts as often as it is met; a slice's spare places count too). A statement '..UptoSaid' is the law's where the arguments, and the package variables that the reading takes, are together of bulk at most 1048576: NARROWER than '..Said'. Prove '..Said' where nothing that the law and all that it calls make is longer than what came in: it says more and counts as full. Else prove '..UptoSaid'. A law counts once. -/
mutual
def uptoBulk {H : Type} : DataW H → Nat
  | .lit (.string bytes) => bytes.length + 1
  | .lit _ => 1
  | .nil => 1
  | .ptr d => uptoBulk d + 1
  | .slice elems spare => uptoBulkAll elems + uptoBulkAll spare + 1
  | .agg parts => uptoBulkAll parts + 1
  | .iface _ d => uptoBulk d + 1
  | .map entries => uptoBulkEntries entries + 1
  | .held _ => 1
def uptoBulkAll {H : Type} : List (DataW H) → Nat
  | [] => 0
  | d :: r => uptoBulk d + uptoBulkAll r
def uptoBulkEntries {H : Type} : List (Lit × DataW H) → Nat
  | [] => 0
  | x :: r => uptoBulkEntry x + uptoBulkEntries r
def uptoBulkEntry {H : Type} : Lit × DataW H → Nat
  | (.string bytes, d) => bytes.length + uptoBulk d + 1
  | (_, d) => uptoBulk d + 1
 end
def uptoSmall : (H : Type) → List (DataW H) → Bool := fun _ ds => decide (uptoBulkAll ds ≤ 1048576)
def OpenSpec.upto (s : _root_.Go.ChangeSpec) : _root_.Go.OpenSpec := { _root_.Go.OpenSpec.ofChange s with cond := some uptoSmall }

/-- 'laws.FnExactMinimalSets', WHERE WHAT IT READS IS OF BULK AT MOST 1048576: true; the input reads as it did. -/
def fnExactMinimalSetsUptoRow : OpenClaim := { program := "ytkkmjpeolfmapaa", sum := "41b50eb5a068113ba1d6219c124a8b9e19287e82f9c5790855753029ad5ecca1", func := "loop.example/g03405/laws.FnExactMinimalSets", spec := "fnExactMinimalSets", unfollowed := true, recurses := true, apart := false, narrowed := true }
def FnExactMinimalSetsUptoSaid : Prop := fnExactMinimalSetsUptoRow.holds Try.pinned (OpenSpec.upto fnExactMinimalSetsSpec)

/-- 'laws.FnExactComplementFamily', WHERE WHAT IT READS IS OF BULK AT MOST 1048576: true; the input reads as it did. -/
def fnExactComplementFamilyUptoRow : OpenClaim := { program := "ytkkmjpeolfmapaa", sum := "41b50eb5a068113ba1d6219c124a8b9e19287e82f9c5790855753029ad5ecca1", func := "loop.example/g03405/laws.FnExactComplementFamily", spec := "fnExactComplementFamily", unfollowed := true, recurses := true, apart := false, narrowed := true }
def FnExactComplementFamilyUptoSaid : Prop := fnExactComplementFamilyUptoRow.holds Try.pinned (OpenSpec.upto fnExactComplementFamilySpec)

/-- 'laws.FnExactIsMatroidRank', WHERE WHAT IT READS IS OF BULK AT MOST 1048576: true; the input reads as it did. -/
def fnExactIsMatroidRankUptoRow : OpenClaim := { program := "ytkkmjpeolfmapaa", sum := "41b50eb5a068113ba1d6219c124a8b9e19287e82f9c5790855753029ad5ecca1", func := "loop.example/g03405/laws.FnExactIsMatroidRank", spec := "fnExactIsMatroidRank", unfollowed := true, recurses := true, apart := false, narrowed := true }
def FnExactIsMatroidRankUptoSaid : Prop := fnExactIsMatroidRankUptoRow.holds Try.pinned (OpenSpec.upto fnExactIsMatroidRankSpec)

/-- 'laws.FnExactGreedyTransversal', WHERE WHAT IT READS IS OF BULK AT MOST 1048576: true; the input reads as it did. -/
def fnExactGreedyTransversalUptoRow : OpenClaim := { program := "ytkkmjpeolfmapaa", sum := "41b50eb5a068113ba1d6219c124a8b9e19287e82f9c5790855753029ad5ecca1", func := "loop.example/g03405/laws.FnExactGreedyTransversal", spec := "fnExactGreedyTransversal", apart := false, narrowed := true }
def FnExactGreedyTransversalUptoSaid : Prop := fnExactGreedyTransversalUptoRow.holds Try.pinned (OpenSpec.upto fnExactGreedyTransversalSpec)

/-- 'laws.FnExactIsBasisFamily', WHERE WHAT IT READS IS OF BULK AT MOST 1048576: true; the input reads as it did. -/
def fnExactIsBasisFamilyUptoRow : OpenClaim := { program := "ytkkmjpeolfmapaa", sum := "41b50eb5a068113ba1d6219c124a8b9e19287e82f9c5790855753029ad5ecca1", func := "loop.example/g03405/laws.FnExactIsBasisFamily", spec := "fnExactIsBasisFamily", unfollowed := true, recurses := true, apart := false, narrowed := true }
def FnExactIsBasisFamilyUptoSaid : Prop := fnExactIsBasisFamilyUptoRow.holds Try.pinned (OpenSpec.upto fnExactIsBasisFamilySpec)

/-- 'laws.FnExactBlockerOf', WHERE WHAT IT READS IS OF BULK AT MOST 1048576: true; the input reads as it did. -/
def fnExactBlockerOfUptoRow : OpenClaim := { program := "ytkkmjpeolfmapaa", sum := "41b50eb5a068113ba1d6219c124a8b9e19287e82f9c5790855753029ad5ecca1", func := "loop.example/g03405/laws.FnExactBlockerOf", spec := "fnExactBlockerOf", unfollowed := true, recurses := true, apart := false, narrowed := true }
def FnExactBlockerOfUptoSaid : Prop := fnExactBlockerOfUptoRow.holds Try.pinned (OpenSpec.upto fnExactBlockerOfSpec)

/-- 'laws.FnExactDepthsIn', WHERE WHAT IT READS IS OF BULK AT MOST 1048576: true; the input reads as it did. -/
def fnExactDepthsInUptoRow : OpenClaim := { program := "ytkkmjpeolfmapaa", sum := "41b50eb5a068113ba1d6219c124a8b9e19287e82f9c5790855753029ad5ecca1", func := "loop.example/g03405/laws.FnExactDepthsIn", spec := "fnExactDepthsIn", apart := false, narrowed := true }
def FnExactDepthsInUptoSaid : Prop := fnExactDepthsInUptoRow.holds Try.pinned (OpenSpec.upto fnExactDepthsInSpec)

/-- 'laws.FnExactCommonBound', WHERE WHAT IT READS IS OF BULK AT MOST 1048576: true; the input reads as it did. -/
def fnExactCommonBoundUptoRow : OpenClaim := { program := "ytkkmjpeolfmapaa", sum := "41b50eb5a068113ba1d6219c124a8b9e19287e82f9c5790855753029ad5ecca1", func := "loop.example/g03405/laws.FnExactCommonBound", spec := "fnExactCommonBound", unfollowed := true, recurses := true, apart := false, narrowed := true }
def FnExactCommonBoundUptoSaid : Prop := fnExactCommonBoundUptoRow.holds Try.pinned (OpenSpec.upto fnExactCommonBoundSpec)

/-- 'laws.FnExactIsIndependent', WHERE WHAT IT READS IS OF BULK AT MOST 1048576: true; the input reads as it did. -/
def fnExactIsIndependentUptoRow : OpenClaim := { program := "ytkkmjpeolfmapaa", sum := "41b50eb5a068113ba1d6219c124a8b9e19287e82f9c5790855753029ad5ecca1", func := "loop.example/g03405/laws.FnExactIsIndependent", spec := "fnExactIsIndependent", unfollowed := true, recurses := true, apart := false, narrowed := true }
def FnExactIsIndependentUptoSaid : Prop := fnExactIsIndependentUptoRow.holds Try.pinned (OpenSpec.upto fnExactIsIndependentSpec)

/-- 'laws.FnExactTransversalNumber', WHERE WHAT IT READS IS OF BULK AT MOST 1048576: true; the input reads as it did. -/
def fnExactTransversalNumberUptoRow : OpenClaim := { program := "ytkkmjpeolfmapaa", sum := "41b50eb5a068113ba1d6219c124a8b9e19287e82f9c5790855753029ad5ecca1", func := "loop.example/g03405/laws.FnExactTransversalNumber", spec := "fnExactTransversalNumber", unfollowed := true, recurses := true, apart := false, narrowed := true }
def FnExactTransversalNumberUptoSaid : Prop := fnExactTransversalNumberUptoRow.holds Try.pinned (OpenSpec.upto fnExactTransversalNumberSpec)

/-- 'laws.FnExactParentsIn', WHERE WHAT IT READS IS OF BULK AT MOST 1048576: true; the input reads as it did. -/
def fnExactParentsInUptoRow : OpenClaim := { program := "ytkkmjpeolfmapaa", sum := "41b50eb5a068113ba1d6219c124a8b9e19287e82f9c5790855753029ad5ecca1", func := "loop.example/g03405/laws.FnExactParentsIn", spec := "fnExactParentsIn", apart := false, narrowed := true }
def FnExactParentsInUptoSaid : Prop := fnExactParentsInUptoRow.holds Try.pinned (OpenSpec.upto fnExactParentsInSpec)

/-- 'laws.FnExactIsCommon', WHERE WHAT IT READS IS OF BULK AT MOST 1048576: true; the input reads as it did. -/
def fnExactIsCommonUptoRow : OpenClaim := { program := "ytkkmjpeolfmapaa", sum := "41b50eb5a068113ba1d6219c124a8b9e19287e82f9c5790855753029ad5ecca1", func := "loop.example/g03405/laws.FnExactIsCommon", spec := "fnExactIsCommon", unfollowed := true, recurses := true, apart := false, narrowed := true }
def FnExactIsCommonUptoSaid : Prop := fnExactIsCommonUptoRow.holds Try.pinned (OpenSpec.upto fnExactIsCommonSpec)

end Rows
end Go.Proofs.Ytkkmjpeolfmapaa
