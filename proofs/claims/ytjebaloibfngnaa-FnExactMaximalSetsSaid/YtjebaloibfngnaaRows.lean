/-
  No cell of these rows narrows 'for every input' (looked for: loops, veiled, ifaces, maps, wideKeys, modest, calm, conditions, laid).
  DERIVED. THE GIVEN ROWS OF THIS SEAT. 12 by the template 'for every input the law returns true; each argument reads behind the call as it read before'; 0 by the template 'total and deterministic' (their statements: YtjebaloibfngnaaTotals.lean).
  GIVEN WITH THE SEED: the statements are not yours to turn. If you find one false, say at which input.
  Laid BY PROGRAM, IN A SANDBOX (cutbox-rows.mjs): the forced cells as the released guide's own fill.sh prints them over the translation 996ea690bfde594e… (all of the seat's roots in one cut). By AI agents, Wed Nov 11 2026. No macro, syntax, notation, axiom, sorry.
-/
import Derived.Test.YtjebaloibfngnaaChecked
import GoSem.Claim
import GoSem.ClaimJoined
import GoSem.ClaimMapViews
import Derived.JoinedTies
import Derived.KernelRfl
namespace Go.Proofs.Ytjebaloibfngnaa
/- THE CELL 'sum', in the pinned program and in every row, IS THE sha256 OF THE DUMP (.gsa) THAT YtjebaloibfngnaaProg.lean LOADS. Nothing in Lean hashes anything: it is a label: what it is worth is what the hold of that sum in a sandbox is worth. -/
noncomputable def Try.pinned : Pinned := { name := "ytjebaloibfngnaa", sum := "996ea690bfde594ee17a00f59c5c91e28898527a13a6d0a482aa62329a9c2d86", checked := Try.checked }
namespace Rows
def none {H : Type} : Left H := { results := [], args := [] }

/-- 'laws.FnExactChoose': WHATEVER THE INPUT: true; the input reads as it did. -/
def fnExactChooseSpec : ChangeSpec := { name := "fnExactChoose", fn := fun _ => fun
  | [d1, d2] => { results := [.lit (.bool true)], args := [d1, d2] }
  | _ => none }
def fnExactChooseRow : OpenClaim := { program := "ytjebaloibfngnaa", sum := "996ea690bfde594ee17a00f59c5c91e28898527a13a6d0a482aa62329a9c2d86", func := "loop.example/g03405/laws.FnExactChoose", spec := "fnExactChoose", apart := false }
def FnExactChooseSaid : Prop := fnExactChooseRow.holds Try.pinned (OpenSpec.ofChange fnExactChooseSpec)

/-- ITS FALSE NEIGHBOUR: 'it returns false'. Refute it at one input. -/
def fnExactChooseWrong : ChangeSpec := { name := "fnExactChoose", fn := fun _ => fun
  | [d1, d2] => { results := [.lit (.bool false)], args := [d1, d2] }
  | _ => none }
def FnExactChooseWrongFalsely : Prop := fnExactChooseRow.holds Try.pinned (OpenSpec.ofChange fnExactChooseWrong)

/-- 'laws.FnExactAreCrossing': WHATEVER THE INPUT: true; the input reads as it did. -/
def fnExactAreCrossingSpec : ChangeSpec := { name := "fnExactAreCrossing", fn := fun _ => fun
  | [d1, d2, d3] => { results := [.lit (.bool true)], args := [d1, d2, d3] }
  | _ => none }
def fnExactAreCrossingRow : OpenClaim := { program := "ytjebaloibfngnaa", sum := "996ea690bfde594ee17a00f59c5c91e28898527a13a6d0a482aa62329a9c2d86", func := "loop.example/g03405/laws.FnExactAreCrossing", spec := "fnExactAreCrossing", apart := false }
def FnExactAreCrossingSaid : Prop := fnExactAreCrossingRow.holds Try.pinned (OpenSpec.ofChange fnExactAreCrossingSpec)

/-- ITS FALSE NEIGHBOUR: 'it returns false'. Refute it at one input. -/
def fnExactAreCrossingWrong : ChangeSpec := { name := "fnExactAreCrossing", fn := fun _ => fun
  | [d1, d2, d3] => { results := [.lit (.bool false)], args := [d1, d2, d3] }
  | _ => none }
def FnExactAreCrossingWrongFalsely : Prop := fnExactAreCrossingRow.holds Try.pinned (OpenSpec.ofChange fnExactAreCrossingWrong)

/-- 'laws.FnExactSauerBound': WHATEVER THE INPUT: true; the input reads as it did. -/
def fnExactSauerBoundSpec : ChangeSpec := { name := "fnExactSauerBound", fn := fun _ => fun
  | [d1, d2] => { results := [.lit (.bool true)], args := [d1, d2] }
  | _ => none }
def fnExactSauerBoundRow : OpenClaim := { program := "ytjebaloibfngnaa", sum := "996ea690bfde594ee17a00f59c5c91e28898527a13a6d0a482aa62329a9c2d86", func := "loop.example/g03405/laws.FnExactSauerBound", spec := "fnExactSauerBound", apart := false }
def FnExactSauerBoundSaid : Prop := fnExactSauerBoundRow.holds Try.pinned (OpenSpec.ofChange fnExactSauerBoundSpec)

/-- ITS FALSE NEIGHBOUR: 'it returns false'. Refute it at one input. -/
def fnExactSauerBoundWrong : ChangeSpec := { name := "fnExactSauerBound", fn := fun _ => fun
  | [d1, d2] => { results := [.lit (.bool false)], args := [d1, d2] }
  | _ => none }
def FnExactSauerBoundWrongFalsely : Prop := fnExactSauerBoundRow.holds Try.pinned (OpenSpec.ofChange fnExactSauerBoundWrong)

/-- 'laws.FnExactEqualFamilies': WHATEVER THE INPUT: true; the input reads as it did. -/
def fnExactEqualFamiliesSpec : ChangeSpec := { name := "fnExactEqualFamilies", fn := fun _ => fun
  | [d1, d2] => { results := [.lit (.bool true)], args := [d1, d2] }
  | _ => none }
def fnExactEqualFamiliesRow : OpenClaim := { program := "ytjebaloibfngnaa", sum := "996ea690bfde594ee17a00f59c5c91e28898527a13a6d0a482aa62329a9c2d86", func := "loop.example/g03405/laws.FnExactEqualFamilies", spec := "fnExactEqualFamilies", apart := false }
def FnExactEqualFamiliesSaid : Prop := fnExactEqualFamiliesRow.holds Try.pinned (OpenSpec.ofChange fnExactEqualFamiliesSpec)

/-- ITS FALSE NEIGHBOUR: 'it returns false'. Refute it at one input. -/
def fnExactEqualFamiliesWrong : ChangeSpec := { name := "fnExactEqualFamilies", fn := fun _ => fun
  | [d1, d2] => { results := [.lit (.bool false)], args := [d1, d2] }
  | _ => none }
def FnExactEqualFamiliesWrongFalsely : Prop := fnExactEqualFamiliesRow.holds Try.pinned (OpenSpec.ofChange fnExactEqualFamiliesWrong)

/-- 'laws.FnExactIsFamily': WHATEVER THE INPUT: true; the input reads as it did. -/
def fnExactIsFamilySpec : ChangeSpec := { name := "fnExactIsFamily", fn := fun _ => fun
  | [d] => { results := [.lit (.bool true)], args := [d] }
  | _ => none }
def fnExactIsFamilyRow : OpenClaim := { program := "ytjebaloibfngnaa", sum := "996ea690bfde594ee17a00f59c5c91e28898527a13a6d0a482aa62329a9c2d86", func := "loop.example/g03405/laws.FnExactIsFamily", spec := "fnExactIsFamily", apart := false }
def FnExactIsFamilySaid : Prop := fnExactIsFamilyRow.holds Try.pinned (OpenSpec.ofChange fnExactIsFamilySpec)

/-- ITS FALSE NEIGHBOUR: 'it returns false'. Refute it at one input. -/
def fnExactIsFamilyWrong : ChangeSpec := { name := "fnExactIsFamily", fn := fun _ => fun
  | [d] => { results := [.lit (.bool false)], args := [d] }
  | _ => none }
def FnExactIsFamilyWrongFalsely : Prop := fnExactIsFamilyRow.holds Try.pinned (OpenSpec.ofChange fnExactIsFamilyWrong)

/-- 'laws.FnExactIsTransversal': WHATEVER THE INPUT: true; the input reads as it did. -/
def fnExactIsTransversalSpec : ChangeSpec := { name := "fnExactIsTransversal", fn := fun _ => fun
  | [d1, d2] => { results := [.lit (.bool true)], args := [d1, d2] }
  | _ => none }
def fnExactIsTransversalRow : OpenClaim := { program := "ytjebaloibfngnaa", sum := "996ea690bfde594ee17a00f59c5c91e28898527a13a6d0a482aa62329a9c2d86", func := "loop.example/g03405/laws.FnExactIsTransversal", spec := "fnExactIsTransversal", apart := false }
def FnExactIsTransversalSaid : Prop := fnExactIsTransversalRow.holds Try.pinned (OpenSpec.ofChange fnExactIsTransversalSpec)

/-- ITS FALSE NEIGHBOUR: 'it returns false'. Refute it at one input. -/
def fnExactIsTransversalWrong : ChangeSpec := { name := "fnExactIsTransversal", fn := fun _ => fun
  | [d1, d2] => { results := [.lit (.bool false)], args := [d1, d2] }
  | _ => none }
def FnExactIsTransversalWrongFalsely : Prop := fnExactIsTransversalRow.holds Try.pinned (OpenSpec.ofChange fnExactIsTransversalWrong)

/-- 'laws.FnUnion': WHATEVER THE INPUT: true; the input reads as it did. -/
def fnUnionSpec : ChangeSpec := { name := "fnUnion", fn := fun _ => fun
  | [d] => { results := [.lit (.bool true)], args := [d] }
  | _ => none }
def fnUnionRow : OpenClaim := { program := "ytjebaloibfngnaa", sum := "996ea690bfde594ee17a00f59c5c91e28898527a13a6d0a482aa62329a9c2d86", func := "loop.example/g03405/laws.FnUnion", spec := "fnUnion", unfollowed := true, recurses := true, apart := false }
def FnUnionSaid : Prop := fnUnionRow.holds Try.pinned (OpenSpec.ofChange fnUnionSpec)

/-- ITS FALSE NEIGHBOUR: 'it returns false'. Refute it at one input. -/
def fnUnionWrong : ChangeSpec := { name := "fnUnion", fn := fun _ => fun
  | [d] => { results := [.lit (.bool false)], args := [d] }
  | _ => none }
def FnUnionWrongFalsely : Prop := fnUnionRow.holds Try.pinned (OpenSpec.ofChange fnUnionWrong)

/-- 'laws.FnExactDegreeOf': WHATEVER THE INPUT: true; the input reads as it did. -/
def fnExactDegreeOfSpec : ChangeSpec := { name := "fnExactDegreeOf", fn := fun _ => fun
  | [d1, d2] => { results := [.lit (.bool true)], args := [d1, d2] }
  | _ => none }
def fnExactDegreeOfRow : OpenClaim := { program := "ytjebaloibfngnaa", sum := "996ea690bfde594ee17a00f59c5c91e28898527a13a6d0a482aa62329a9c2d86", func := "loop.example/g03405/laws.FnExactDegreeOf", spec := "fnExactDegreeOf", apart := false }
def FnExactDegreeOfSaid : Prop := fnExactDegreeOfRow.holds Try.pinned (OpenSpec.ofChange fnExactDegreeOfSpec)

/-- ITS FALSE NEIGHBOUR: 'it returns false'. Refute it at one input. -/
def fnExactDegreeOfWrong : ChangeSpec := { name := "fnExactDegreeOf", fn := fun _ => fun
  | [d1, d2] => { results := [.lit (.bool false)], args := [d1, d2] }
  | _ => none }
def FnExactDegreeOfWrongFalsely : Prop := fnExactDegreeOfRow.holds Try.pinned (OpenSpec.ofChange fnExactDegreeOfWrong)

/-- 'laws.FnExactIsLaminar': WHATEVER THE INPUT: true; the input reads as it did. -/
def fnExactIsLaminarSpec : ChangeSpec := { name := "fnExactIsLaminar", fn := fun _ => fun
  | [d] => { results := [.lit (.bool true)], args := [d] }
  | _ => none }
def fnExactIsLaminarRow : OpenClaim := { program := "ytjebaloibfngnaa", sum := "996ea690bfde594ee17a00f59c5c91e28898527a13a6d0a482aa62329a9c2d86", func := "loop.example/g03405/laws.FnExactIsLaminar", spec := "fnExactIsLaminar", apart := false }
def FnExactIsLaminarSaid : Prop := fnExactIsLaminarRow.holds Try.pinned (OpenSpec.ofChange fnExactIsLaminarSpec)

/-- ITS FALSE NEIGHBOUR: 'it returns false'. Refute it at one input. -/
def fnExactIsLaminarWrong : ChangeSpec := { name := "fnExactIsLaminar", fn := fun _ => fun
  | [d] => { results := [.lit (.bool false)], args := [d] }
  | _ => none }
def FnExactIsLaminarWrongFalsely : Prop := fnExactIsLaminarRow.holds Try.pinned (OpenSpec.ofChange fnExactIsLaminarWrong)

/-- 'laws.FnExactIsCrossFree': WHATEVER THE INPUT: true; the input reads as it did. -/
def fnExactIsCrossFreeSpec : ChangeSpec := { name := "fnExactIsCrossFree", fn := fun _ => fun
  | [d] => { results := [.lit (.bool true)], args := [d] }
  | _ => none }
def fnExactIsCrossFreeRow : OpenClaim := { program := "ytjebaloibfngnaa", sum := "996ea690bfde594ee17a00f59c5c91e28898527a13a6d0a482aa62329a9c2d86", func := "loop.example/g03405/laws.FnExactIsCrossFree", spec := "fnExactIsCrossFree", apart := false }
def FnExactIsCrossFreeSaid : Prop := fnExactIsCrossFreeRow.holds Try.pinned (OpenSpec.ofChange fnExactIsCrossFreeSpec)

/-- ITS FALSE NEIGHBOUR: 'it returns false'. Refute it at one input. -/
def fnExactIsCrossFreeWrong : ChangeSpec := { name := "fnExactIsCrossFree", fn := fun _ => fun
  | [d] => { results := [.lit (.bool false)], args := [d] }
  | _ => none }
def FnExactIsCrossFreeWrongFalsely : Prop := fnExactIsCrossFreeRow.holds Try.pinned (OpenSpec.ofChange fnExactIsCrossFreeWrong)

/-- 'laws.FnExactIsPacking': WHATEVER THE INPUT: true; the input reads as it did. -/
def fnExactIsPackingSpec : ChangeSpec := { name := "fnExactIsPacking", fn := fun _ => fun
  | [d1, d2] => { results := [.lit (.bool true)], args := [d1, d2] }
  | _ => none }
def fnExactIsPackingRow : OpenClaim := { program := "ytjebaloibfngnaa", sum := "996ea690bfde594ee17a00f59c5c91e28898527a13a6d0a482aa62329a9c2d86", func := "loop.example/g03405/laws.FnExactIsPacking", spec := "fnExactIsPacking", apart := false }
def FnExactIsPackingSaid : Prop := fnExactIsPackingRow.holds Try.pinned (OpenSpec.ofChange fnExactIsPackingSpec)

/-- ITS FALSE NEIGHBOUR: 'it returns false'. Refute it at one input. -/
def fnExactIsPackingWrong : ChangeSpec := { name := "fnExactIsPacking", fn := fun _ => fun
  | [d1, d2] => { results := [.lit (.bool false)], args := [d1, d2] }
  | _ => none }
def FnExactIsPackingWrongFalsely : Prop := fnExactIsPackingRow.holds Try.pinned (OpenSpec.ofChange fnExactIsPackingWrong)

/-- 'laws.FnExactMaximalSets': WHATEVER THE INPUT: true; the input reads as it did. -/
def fnExactMaximalSetsSpec : ChangeSpec := { name := "fnExactMaximalSets", fn := fun _ => fun
  | [d] => { results := [.lit (.bool true)], args := [d] }
  | _ => none }
def fnExactMaximalSetsRow : OpenClaim := { program := "ytjebaloibfngnaa", sum := "996ea690bfde594ee17a00f59c5c91e28898527a13a6d0a482aa62329a9c2d86", func := "loop.example/g03405/laws.FnExactMaximalSets", spec := "fnExactMaximalSets", unfollowed := true, recurses := true, apart := false }
def FnExactMaximalSetsSaid : Prop := fnExactMaximalSetsRow.holds Try.pinned (OpenSpec.ofChange fnExactMaximalSetsSpec)

/-- ITS FALSE NEIGHBOUR: 'it returns false'. Refute it at one input. -/
def fnExactMaximalSetsWrong : ChangeSpec := { name := "fnExactMaximalSets", fn := fun _ => fun
  | [d] => { results := [.lit (.bool false)], args := [d] }
  | _ => none }
def FnExactMaximalSetsWrongFalsely : Prop := fnExactMaximalSetsRow.holds Try.pinned (OpenSpec.ofChange fnExactMaximalSetsWrong)

/- THE SECOND FORM. 'bulk': how many values and letters a reading holds, each counted each time it is reached (what is shared counts as often as it is met; a slice's spare places count too). A statement '..UptoSaid' is the law's where the arguments, and the package variables that the reading takes, are together of bulk at most 1048576: NARROWER than '..Said'. Prove '..Said' where nothing that the law and all that it calls make is longer than what came in: it says more and counts as full. Else prove '..UptoSaid'. A law counts once. -/
mutual
def uptoBulk {H : Type} : DataW H → Nat
  | .lit (.string bytes) => bytes.length + 1
  | .lit _ => 1
  | .nil => 1
  | .ptr d => uptoBulk d + 1
  | .slice elems spare => uptoBulkAll elems + uptoBulkAll spare + 1
  | .agg parts => uptoBulkAll parts + 1
  | .iface _ d => uptoBulk d + 1
  | .map entries => uptoBulkEntries entries + 1
  | .held _ => 1
def uptoBulkAll {H : Type} : List (DataW H) → Nat
  | [] => 0
  | d :: r => uptoBulk d + uptoBulkAll r
def uptoBulkEntries {H : Type} : List (Lit × DataW H) → Nat
  | [] => 0
  | x :: r => uptoBulkEntry x + uptoBulkEntries r
def uptoBulkEntry {H : Type} : Lit × DataW H → Nat
  | (.string bytes, d) => bytes.length + uptoBulk d + 1
  | (_, d) => uptoBulk d + 1
 end
def uptoSmall : (H : Type) → List (DataW H) → Bool := fun _ ds => decide (uptoBulkAll ds ≤ 1048576)
def OpenSpec.upto (s : _root_.Go.ChangeSpec) : _root_.Go.OpenSpec := { _root_.Go.OpenSpec.ofChange s with cond := some uptoSmall }

/-- 'laws.FnExactChoose', WHERE WHAT IT READS IS OF BULK AT MOST 1048576: true; the input reads as it did. -/
def fnExactChooseUptoRow : OpenClaim := { program := "ytjebaloibfngnaa", sum := "996ea690bfde594ee17a00f59c5c91e28898527a13a6d0a482aa62329a9c2d86", func := "loop.example/g03405/laws.FnExactChoose", spec := "fnExactChoose", apart := false, narrowed := true }
def FnExactChooseUptoSaid : Prop := fnExactChooseUptoRow.holds Try.pinned (OpenSpec.upto fnExactChooseSpec)

/-- 'laws.FnExactAreCrossing', WHERE WHAT IT READS IS OF BULK AT MOST 1048576: true; the input reads as it did. -/
def fnExactAreCrossingUptoRow : OpenClaim := { program := "ytjebaloibfngnaa", sum := "996ea690bfde594ee17a00f59c5c91e28898527a13a6d0a482aa62329a9c2d86", func := "loop.example/g03405/laws.FnExactAreCrossing", spec := "fnExactAreCrossing", apart := false, narrowed := true }
def FnExactAreCrossingUptoSaid : Prop := fnExactAreCrossingUptoRow.holds Try.pinned (OpenSpec.upto fnExactAreCrossingSpec)

/-- 'laws.FnExactSauerBound', WHERE WHAT IT READS IS OF BULK AT MOST 1048576: true; the input reads as it did. -/
def fnExactSauerBoundUptoRow : OpenClaim := { program := "ytjebaloibfngnaa", sum := "996ea690bfde594ee17a00f59c5c91e28898527a13a6d0a482aa62329a9c2d86", func := "loop.example/g03405/laws.FnExactSauerBound", spec := "fnExactSauerBound", apart := false, narrowed := true }
def FnExactSauerBoundUptoSaid : Prop := fnExactSauerBoundUptoRow.holds Try.pinned (OpenSpec.upto fnExactSauerBoundSpec)

/-- 'laws.FnExactEqualFamilies', WHERE WHAT IT READS IS OF BULK AT MOST 1048576: true; the input reads as it did. -/
def fnExactEqualFamiliesUptoRow : OpenClaim := { program := "ytjebaloibfngnaa", sum := "996ea690bfde594ee17a00f59c5c91e28898527a13a6d0a482aa62329a9c2d86", func := "loop.example/g03405/laws.FnExactEqualFamilies", spec := "fnExactEqualFamilies", apart := false, narrowed := true }
def FnExactEqualFamiliesUptoSaid : Prop := fnExactEqualFamiliesUptoRow.holds Try.pinned (OpenSpec.upto fnExactEqualFamiliesSpec)

/-- 'laws.FnExactIsFamily', WHERE WHAT IT READS IS OF BULK AT MOST 1048576: true; the input reads as it did. -/
def fnExactIsFamilyUptoRow : OpenClaim := { program := "ytjebaloibfngnaa", sum := "996ea690bfde594ee17a00f59c5c91e28898527a13a6d0a482aa62329a9c2d86", func := "loop.example/g03405/laws.FnExactIsFamily", spec := "fnExactIsFamily", apart := false, narrowed := true }
def FnExactIsFamilyUptoSaid : Prop := fnExactIsFamilyUptoRow.holds Try.pinned (OpenSpec.upto fnExactIsFamilySpec)

/-- 'laws.FnExactIsTransversal', WHERE WHAT IT READS IS OF BULK AT MOST 1048576: true; the input reads as it did. -/
def fnExactIsTransversalUptoRow : OpenClaim := { program := "ytjebaloibfngnaa", sum := "996ea690bfde594ee17a00f59c5c91e28898527a13a6d0a482aa62329a9c2d86", func := "loop.example/g03405/laws.FnExactIsTransversal", spec := "fnExactIsTransversal", apart := false, narrowed := true }
def FnExactIsTransversalUptoSaid : Prop := fnExactIsTransversalUptoRow.holds Try.pinned (OpenSpec.upto fnExactIsTransversalSpec)

/-- 'laws.FnUnion', WHERE WHAT IT READS IS OF BULK AT MOST 1048576: true; the input reads as it did. -/
def fnUnionUptoRow : OpenClaim := { program := "ytjebaloibfngnaa", sum := "996ea690bfde594ee17a00f59c5c91e28898527a13a6d0a482aa62329a9c2d86", func := "loop.example/g03405/laws.FnUnion", spec := "fnUnion", unfollowed := true, recurses := true, apart := false, narrowed := true }
def FnUnionUptoSaid : Prop := fnUnionUptoRow.holds Try.pinned (OpenSpec.upto fnUnionSpec)

/-- 'laws.FnExactDegreeOf', WHERE WHAT IT READS IS OF BULK AT MOST 1048576: true; the input reads as it did. -/
def fnExactDegreeOfUptoRow : OpenClaim := { program := "ytjebaloibfngnaa", sum := "996ea690bfde594ee17a00f59c5c91e28898527a13a6d0a482aa62329a9c2d86", func := "loop.example/g03405/laws.FnExactDegreeOf", spec := "fnExactDegreeOf", apart := false, narrowed := true }
def FnExactDegreeOfUptoSaid : Prop := fnExactDegreeOfUptoRow.holds Try.pinned (OpenSpec.upto fnExactDegreeOfSpec)

/-- 'laws.FnExactIsLaminar', WHERE WHAT IT READS IS OF BULK AT MOST 1048576: true; the input reads as it did. -/
def fnExactIsLaminarUptoRow : OpenClaim := { program := "ytjebaloibfngnaa", sum := "996ea690bfde594ee17a00f59c5c91e28898527a13a6d0a482aa62329a9c2d86", func := "loop.example/g03405/laws.FnExactIsLaminar", spec := "fnExactIsLaminar", apart := false, narrowed := true }
def FnExactIsLaminarUptoSaid : Prop := fnExactIsLaminarUptoRow.holds Try.pinned (OpenSpec.upto fnExactIsLaminarSpec)

/-- 'laws.FnExactIsCrossFree', WHERE WHAT IT READS IS OF BULK AT MOST 1048576: true; the input reads as it did. -/
def fnExactIsCrossFreeUptoRow : OpenClaim := { program := "ytjebaloibfngnaa", sum := "996ea690bfde594ee17a00f59c5c91e28898527a13a6d0a482aa62329a9c2d86", func := "loop.example/g03405/laws.FnExactIsCrossFree", spec := "fnExactIsCrossFree", apart := false, narrowed := true }
def FnExactIsCrossFreeUptoSaid : Prop := fnExactIsCrossFreeUptoRow.holds Try.pinned (OpenSpec.upto fnExactIsCrossFreeSpec)

/-- 'laws.FnExactIsPacking', WHERE WHAT IT READS IS OF BULK AT MOST 1048576: true; the input reads as it did. -/
def fnExactIsPackingUptoRow : OpenClaim := { program := "ytjebaloibfngnaa", sum := "996ea690bfde594ee17a00f59c5c91e28898527a13a6d0a482aa62329a9c2d86", func := "loop.example/g03405/laws.FnExactIsPacking", spec := "fnExactIsPacking", apart := false, narrowed := true }
def FnExactIsPackingUptoSaid : Prop := fnExactIsPackingUptoRow.holds Try.pinned (OpenSpec.upto fnExactIsPackingSpec)

/-- 'laws.FnExactMaximalSets', WHERE WHAT IT READS IS OF BULK AT MOST 1048576: true; the input reads as it did. -/
def fnExactMaximalSetsUptoRow : OpenClaim := { program := "ytjebaloibfngnaa", sum := "996ea690bfde594ee17a00f59c5c91e28898527a13a6d0a482aa62329a9c2d86", func := "loop.example/g03405/laws.FnExactMaximalSets", spec := "fnExactMaximalSets", unfollowed := true, recurses := true, apart := false, narrowed := true }
def FnExactMaximalSetsUptoSaid : Prop := fnExactMaximalSetsUptoRow.holds Try.pinned (OpenSpec.upto fnExactMaximalSetsSpec)

end Rows
end Go.Proofs.Ytjebaloibfngnaa
