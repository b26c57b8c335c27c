/-
  No cell of these rows narrows 'for every input' (looked for: loops, veiled, ifaces, maps, wideKeys, modest, calm, conditions, laid).
  DERIVED. THE GIVEN ROWS OF THIS SEAT. 12 by the template 'for every input the law returns true; each argument reads behind the call as it read before'; 0 by the template 'total and deterministic' (their statements: YtjbnldgnoloobaaTotals.lean).
  GIVEN WITH THE SEED: the statements are not yours to turn. If you find one false, say at which input.
  Laid BY PROGRAM, IN A SANDBOX (cutbox-rows.mjs): the forced cells as the released guide's own fill.sh prints them over the translation 95b9dcf386681432… (all of the seat's roots in one cut). By AI agents, Wed Nov 11 2026. No macro, syntax, notation, axiom, sorry.
-/
import Derived.Test.YtjbnldgnoloobaaChecked
import GoSem.Claim
import GoSem.ClaimJoined
import GoSem.ClaimMapViews
import Derived.JoinedTies
import Derived.KernelRfl
namespace Go.Proofs.Ytjbnldgnoloobaa
/- THE CELL 'sum', in the pinned program and in every row, IS THE sha256 OF THE DUMP (.gsa) THAT YtjbnldgnoloobaaProg.lean LOADS. Nothing in Lean hashes anything: it is a label: what it is worth is what the hold of that sum in a sandbox is worth. -/
noncomputable def Try.pinned : Pinned := { name := "ytjbnldgnoloobaa", sum := "95b9dcf386681432ffdd3c3a7f0e977b5c1a2c950c22bcfe0fa524fcabb9700a", checked := Try.checked }
namespace Rows
def none {H : Type} : Left H := { results := [], args := [] }

/-- 'laws.FnExactCoversByBases': WHATEVER THE INPUT: true; the input reads as it did. -/
def fnExactCoversByBasesSpec : ChangeSpec := { name := "fnExactCoversByBases", fn := fun _ => fun
  | [d] => { results := [.lit (.bool true)], args := [d] }
  | _ => none }
def fnExactCoversByBasesRow : OpenClaim := { program := "ytjbnldgnoloobaa", sum := "95b9dcf386681432ffdd3c3a7f0e977b5c1a2c950c22bcfe0fa524fcabb9700a", func := "loop.example/g03405/laws.FnExactCoversByBases", spec := "fnExactCoversByBases", unfollowed := true, recurses := true, apart := false }
def FnExactCoversByBasesSaid : Prop := fnExactCoversByBasesRow.holds Try.pinned (OpenSpec.ofChange fnExactCoversByBasesSpec)

/-- ITS FALSE NEIGHBOUR: 'it returns false'. Refute it at one input. -/
def fnExactCoversByBasesWrong : ChangeSpec := { name := "fnExactCoversByBases", fn := fun _ => fun
  | [d] => { results := [.lit (.bool false)], args := [d] }
  | _ => none }
def FnExactCoversByBasesWrongFalsely : Prop := fnExactCoversByBasesRow.holds Try.pinned (OpenSpec.ofChange fnExactCoversByBasesWrong)

/-- 'laws.FnExactPacksBases': WHATEVER THE INPUT: true; the input reads as it did. -/
def fnExactPacksBasesSpec : ChangeSpec := { name := "fnExactPacksBases", fn := fun _ => fun
  | [d] => { results := [.lit (.bool true)], args := [d] }
  | _ => none }
def fnExactPacksBasesRow : OpenClaim := { program := "ytjbnldgnoloobaa", sum := "95b9dcf386681432ffdd3c3a7f0e977b5c1a2c950c22bcfe0fa524fcabb9700a", func := "loop.example/g03405/laws.FnExactPacksBases", spec := "fnExactPacksBases", unfollowed := true, recurses := true, apart := false }
def FnExactPacksBasesSaid : Prop := fnExactPacksBasesRow.holds Try.pinned (OpenSpec.ofChange fnExactPacksBasesSpec)

/-- ITS FALSE NEIGHBOUR: 'it returns false'. Refute it at one input. -/
def fnExactPacksBasesWrong : ChangeSpec := { name := "fnExactPacksBases", fn := fun _ => fun
  | [d] => { results := [.lit (.bool false)], args := [d] }
  | _ => none }
def FnExactPacksBasesWrongFalsely : Prop := fnExactPacksBasesRow.holds Try.pinned (OpenSpec.ofChange fnExactPacksBasesWrong)

/-- 'laws.FnExactLargestCommon': WHATEVER THE INPUT: true; the input reads as it did. -/
def fnExactLargestCommonSpec : ChangeSpec := { name := "fnExactLargestCommon", fn := fun _ => fun
  | [d1, d2] => { results := [.lit (.bool true)], args := [d1, d2] }
  | _ => none }
def fnExactLargestCommonRow : OpenClaim := { program := "ytjbnldgnoloobaa", sum := "95b9dcf386681432ffdd3c3a7f0e977b5c1a2c950c22bcfe0fa524fcabb9700a", func := "loop.example/g03405/laws.FnExactLargestCommon", spec := "fnExactLargestCommon", unfollowed := true, recurses := true, apart := false }
def FnExactLargestCommonSaid : Prop := fnExactLargestCommonRow.holds Try.pinned (OpenSpec.ofChange fnExactLargestCommonSpec)

/-- ITS FALSE NEIGHBOUR: 'it returns false'. Refute it at one input. -/
def fnExactLargestCommonWrong : ChangeSpec := { name := "fnExactLargestCommon", fn := fun _ => fun
  | [d1, d2] => { results := [.lit (.bool false)], args := [d1, d2] }
  | _ => none }
def FnExactLargestCommonWrongFalsely : Prop := fnExactLargestCommonRow.holds Try.pinned (OpenSpec.ofChange fnExactLargestCommonWrong)

/-- 'laws.FnExactPartsOf': WHATEVER THE INPUT: true; the input reads as it did. -/
def fnExactPartsOfSpec : ChangeSpec := { name := "fnExactPartsOf", fn := fun _ => fun
  | [d1, d2, d3] => { results := [.lit (.bool true)], args := [d1, d2, d3] }
  | _ => none }
def fnExactPartsOfRow : OpenClaim := { program := "ytjbnldgnoloobaa", sum := "95b9dcf386681432ffdd3c3a7f0e977b5c1a2c950c22bcfe0fa524fcabb9700a", func := "loop.example/g03405/laws.FnExactPartsOf", spec := "fnExactPartsOf", unfollowed := true, recurses := true, apart := false }
def FnExactPartsOfSaid : Prop := fnExactPartsOfRow.holds Try.pinned (OpenSpec.ofChange fnExactPartsOfSpec)

/-- ITS FALSE NEIGHBOUR: 'it returns false'. Refute it at one input. -/
def fnExactPartsOfWrong : ChangeSpec := { name := "fnExactPartsOf", fn := fun _ => fun
  | [d1, d2, d3] => { results := [.lit (.bool false)], args := [d1, d2, d3] }
  | _ => none }
def FnExactPartsOfWrongFalsely : Prop := fnExactPartsOfRow.holds Try.pinned (OpenSpec.ofChange fnExactPartsOfWrong)

/-- 'laws.FnExactCommonVector': WHATEVER THE INPUT: true; the input reads as it did. -/
def fnExactCommonVectorSpec : ChangeSpec := { name := "fnExactCommonVector", fn := fun _ => fun
  | [d1, d2] => { results := [.lit (.bool true)], args := [d1, d2] }
  | _ => none }
def fnExactCommonVectorRow : OpenClaim := { program := "ytjbnldgnoloobaa", sum := "95b9dcf386681432ffdd3c3a7f0e977b5c1a2c950c22bcfe0fa524fcabb9700a", func := "loop.example/g03405/laws.FnExactCommonVector", spec := "fnExactCommonVector", unfollowed := true, recurses := true, apart := false }
def FnExactCommonVectorSaid : Prop := fnExactCommonVectorRow.holds Try.pinned (OpenSpec.ofChange fnExactCommonVectorSpec)

/-- ITS FALSE NEIGHBOUR: 'it returns false'. Refute it at one input. -/
def fnExactCommonVectorWrong : ChangeSpec := { name := "fnExactCommonVector", fn := fun _ => fun
  | [d1, d2] => { results := [.lit (.bool false)], args := [d1, d2] }
  | _ => none }
def FnExactCommonVectorWrongFalsely : Prop := fnExactCommonVectorRow.holds Try.pinned (OpenSpec.ofChange fnExactCommonVectorWrong)

/-- 'laws.FnExactLargestUnion': WHATEVER THE INPUT: true; the input reads as it did. -/
def fnExactLargestUnionSpec : ChangeSpec := { name := "fnExactLargestUnion", fn := fun _ => fun
  | [d1, d2] => { results := [.lit (.bool true)], args := [d1, d2] }
  | _ => none }
def fnExactLargestUnionRow : OpenClaim := { program := "ytjbnldgnoloobaa", sum := "95b9dcf386681432ffdd3c3a7f0e977b5c1a2c950c22bcfe0fa524fcabb9700a", func := "loop.example/g03405/laws.FnExactLargestUnion", spec := "fnExactLargestUnion", unfollowed := true, recurses := true, apart := false }
def FnExactLargestUnionSaid : Prop := fnExactLargestUnionRow.holds Try.pinned (OpenSpec.ofChange fnExactLargestUnionSpec)

/-- ITS FALSE NEIGHBOUR: 'it returns false'. Refute it at one input. -/
def fnExactLargestUnionWrong : ChangeSpec := { name := "fnExactLargestUnion", fn := fun _ => fun
  | [d1, d2] => { results := [.lit (.bool false)], args := [d1, d2] }
  | _ => none }
def FnExactLargestUnionWrongFalsely : Prop := fnExactLargestUnionRow.holds Try.pinned (OpenSpec.ofChange fnExactLargestUnionWrong)

/-- 'laws.FnExactDualRank': WHATEVER THE INPUT: true; the input reads as it did. -/
def fnExactDualRankSpec : ChangeSpec := { name := "fnExactDualRank", fn := fun _ => fun
  | [d] => { results := [.lit (.bool true)], args := [d] }
  | _ => none }
def fnExactDualRankRow : OpenClaim := { program := "ytjbnldgnoloobaa", sum := "95b9dcf386681432ffdd3c3a7f0e977b5c1a2c950c22bcfe0fa524fcabb9700a", func := "loop.example/g03405/laws.FnExactDualRank", spec := "fnExactDualRank", unfollowed := true, recurses := true, apart := false }
def FnExactDualRankSaid : Prop := fnExactDualRankRow.holds Try.pinned (OpenSpec.ofChange fnExactDualRankSpec)

/-- ITS FALSE NEIGHBOUR: 'it returns false'. Refute it at one input. -/
def fnExactDualRankWrong : ChangeSpec := { name := "fnExactDualRank", fn := fun _ => fun
  | [d] => { results := [.lit (.bool false)], args := [d] }
  | _ => none }
def FnExactDualRankWrongFalsely : Prop := fnExactDualRankRow.holds Try.pinned (OpenSpec.ofChange fnExactDualRankWrong)

/-- 'laws.FnExactUnionRank': WHATEVER THE INPUT: true; the input reads as it did. -/
def fnExactUnionRankSpec : ChangeSpec := { name := "fnExactUnionRank", fn := fun _ => fun
  | [d1, d2] => { results := [.lit (.bool true)], args := [d1, d2] }
  | _ => none }
def fnExactUnionRankRow : OpenClaim := { program := "ytjbnldgnoloobaa", sum := "95b9dcf386681432ffdd3c3a7f0e977b5c1a2c950c22bcfe0fa524fcabb9700a", func := "loop.example/g03405/laws.FnExactUnionRank", spec := "fnExactUnionRank", unfollowed := true, recurses := true, apart := false }
def FnExactUnionRankSaid : Prop := fnExactUnionRankRow.holds Try.pinned (OpenSpec.ofChange fnExactUnionRankSpec)

/-- ITS FALSE NEIGHBOUR: 'it returns false'. Refute it at one input. -/
def fnExactUnionRankWrong : ChangeSpec := { name := "fnExactUnionRank", fn := fun _ => fun
  | [d1, d2] => { results := [.lit (.bool false)], args := [d1, d2] }
  | _ => none }
def FnExactUnionRankWrongFalsely : Prop := fnExactUnionRankRow.holds Try.pinned (OpenSpec.ofChange fnExactUnionRankWrong)

/-- 'laws.FnExactBasesOf': WHATEVER THE INPUT: true; the input reads as it did. -/
def fnExactBasesOfSpec : ChangeSpec := { name := "fnExactBasesOf", fn := fun _ => fun
  | [d] => { results := [.lit (.bool true)], args := [d] }
  | _ => none }
def fnExactBasesOfRow : OpenClaim := { program := "ytjbnldgnoloobaa", sum := "95b9dcf386681432ffdd3c3a7f0e977b5c1a2c950c22bcfe0fa524fcabb9700a", func := "loop.example/g03405/laws.FnExactBasesOf", spec := "fnExactBasesOf", unfollowed := true, recurses := true, apart := false }
def FnExactBasesOfSaid : Prop := fnExactBasesOfRow.holds Try.pinned (OpenSpec.ofChange fnExactBasesOfSpec)

/-- ITS FALSE NEIGHBOUR: 'it returns false'. Refute it at one input. -/
def fnExactBasesOfWrong : ChangeSpec := { name := "fnExactBasesOf", fn := fun _ => fun
  | [d] => { results := [.lit (.bool false)], args := [d] }
  | _ => none }
def FnExactBasesOfWrongFalsely : Prop := fnExactBasesOfRow.holds Try.pinned (OpenSpec.ofChange fnExactBasesOfWrong)

/-- 'laws.FnExactRankFromBases': WHATEVER THE INPUT: true; the input reads as it did. -/
def fnExactRankFromBasesSpec : ChangeSpec := { name := "fnExactRankFromBases", fn := fun _ => fun
  | [d] => { results := [.lit (.bool true)], args := [d] }
  | _ => none }
def fnExactRankFromBasesRow : OpenClaim := { program := "ytjbnldgnoloobaa", sum := "95b9dcf386681432ffdd3c3a7f0e977b5c1a2c950c22bcfe0fa524fcabb9700a", func := "loop.example/g03405/laws.FnExactRankFromBases", spec := "fnExactRankFromBases", unfollowed := true, recurses := true, apart := false }
def FnExactRankFromBasesSaid : Prop := fnExactRankFromBasesRow.holds Try.pinned (OpenSpec.ofChange fnExactRankFromBasesSpec)

/-- ITS FALSE NEIGHBOUR: 'it returns false'. Refute it at one input. -/
def fnExactRankFromBasesWrong : ChangeSpec := { name := "fnExactRankFromBases", fn := fun _ => fun
  | [d] => { results := [.lit (.bool false)], args := [d] }
  | _ => none }
def FnExactRankFromBasesWrongFalsely : Prop := fnExactRankFromBasesRow.holds Try.pinned (OpenSpec.ofChange fnExactRankFromBasesWrong)

/-- 'laws.FnExactCutByMerging': WHATEVER THE INPUT: true; the input reads as it did. -/
def fnExactCutByMergingSpec : ChangeSpec := { name := "fnExactCutByMerging", fn := fun _ => fun
  | [d] => { results := [.lit (.bool true)], args := [d] }
  | _ => none }
def fnExactCutByMergingRow : OpenClaim := { program := "ytjbnldgnoloobaa", sum := "95b9dcf386681432ffdd3c3a7f0e977b5c1a2c950c22bcfe0fa524fcabb9700a", func := "loop.example/g03405/laws.FnExactCutByMerging", spec := "fnExactCutByMerging", unfollowed := true, recurses := true, apart := false }
def FnExactCutByMergingSaid : Prop := fnExactCutByMergingRow.holds Try.pinned (OpenSpec.ofChange fnExactCutByMergingSpec)

/-- ITS FALSE NEIGHBOUR: 'it returns false'. Refute it at one input. -/
def fnExactCutByMergingWrong : ChangeSpec := { name := "fnExactCutByMerging", fn := fun _ => fun
  | [d] => { results := [.lit (.bool false)], args := [d] }
  | _ => none }
def FnExactCutByMergingWrongFalsely : Prop := fnExactCutByMergingRow.holds Try.pinned (OpenSpec.ofChange fnExactCutByMergingWrong)

/-- 'laws.FnExactCircuitsOf': WHATEVER THE INPUT: true; the input reads as it did. -/
def fnExactCircuitsOfSpec : ChangeSpec := { name := "fnExactCircuitsOf", fn := fun _ => fun
  | [d] => { results := [.lit (.bool true)], args := [d] }
  | _ => none }
def fnExactCircuitsOfRow : OpenClaim := { program := "ytjbnldgnoloobaa", sum := "95b9dcf386681432ffdd3c3a7f0e977b5c1a2c950c22bcfe0fa524fcabb9700a", func := "loop.example/g03405/laws.FnExactCircuitsOf", spec := "fnExactCircuitsOf", unfollowed := true, recurses := true, apart := false }
def FnExactCircuitsOfSaid : Prop := fnExactCircuitsOfRow.holds Try.pinned (OpenSpec.ofChange fnExactCircuitsOfSpec)

/-- ITS FALSE NEIGHBOUR: 'it returns false'. Refute it at one input. -/
def fnExactCircuitsOfWrong : ChangeSpec := { name := "fnExactCircuitsOf", fn := fun _ => fun
  | [d] => { results := [.lit (.bool false)], args := [d] }
  | _ => none }
def FnExactCircuitsOfWrongFalsely : Prop := fnExactCircuitsOfRow.holds Try.pinned (OpenSpec.ofChange fnExactCircuitsOfWrong)

/- THE SECOND FORM. 'bulk': how many values and letters a reading holds, each counted each time it is reached (what is shared counts as often as it is met; a slice's spare places count too). A statement '..UptoSaid' is the law's where the arguments, and the package variables that the reading takes, are together of bulk at most 1048576: NARROWER than '..Said'. Prove '..Said' where nothing that the law and all that it calls make is longer than what came in: it says more and counts as full. Else prove '..UptoSaid'. A law counts once. -/
mutual
def uptoBulk {H : Type} : DataW H → Nat
  | .lit (.string bytes) => bytes.length + 1
  | .lit _ => 1
  | .nil => 1
  | .ptr d => uptoBulk d + 1
  | .slice elems spare => uptoBulkAll elems + uptoBulkAll spare + 1
  | .agg parts => uptoBulkAll parts + 1
  | .iface _ d => uptoBulk d + 1
  | .map entries => uptoBulkEntries entries + 1
  | .held _ => 1
def uptoBulkAll {H : Type} : List (DataW H) → Nat
  | [] => 0
  | d :: r => uptoBulk d + uptoBulkAll r
def uptoBulkEntries {H : Type} : List (Lit × DataW H) → Nat
  | [] => 0
  | x :: r => uptoBulkEntry x + uptoBulkEntries r
def uptoBulkEntry {H : Type} : Lit × DataW H → Nat
  | (.string bytes, d) => bytes.length + uptoBulk d + 1
  | (_, d) => uptoBulk d + 1
 end
def uptoSmall : (H : Type) → List (DataW H) → Bool := fun _ ds => decide (uptoBulkAll ds ≤ 1048576)
def OpenSpec.upto (s : _root_.Go.ChangeSpec) : _root_.Go.OpenSpec := { _root_.Go.OpenSpec.ofChange s with cond := some uptoSmall }

/-- 'laws.FnExactCoversByBases', WHERE WHAT IT READS IS OF BULK AT MOST 1048576: true; the input reads as it did. -/
def fnExactCoversByBasesUptoRow : OpenClaim := { program := "ytjbnldgnoloobaa", sum := "95b9dcf386681432ffdd3c3a7f0e977b5c1a2c950c22bcfe0fa524fcabb9700a", func := "loop.example/g03405/laws.FnExactCoversByBases", spec := "fnExactCoversByBases", unfollowed := true, recurses := true, apart := false, narrowed := true }
def FnExactCoversByBasesUptoSaid : Prop := fnExactCoversByBasesUptoRow.holds Try.pinned (OpenSpec.upto fnExactCoversByBasesSpec)

/-- 'laws.FnExactPacksBases', WHERE WHAT IT READS IS OF BULK AT MOST 1048576: true; the input reads as it did. -/
def fnExactPacksBasesUptoRow : OpenClaim := { program := "ytjbnldgnoloobaa", sum := "95b9dcf386681432ffdd3c3a7f0e977b5c1a2c950c22bcfe0fa524fcabb9700a", func := "loop.example/g03405/laws.FnExactPacksBases", spec := "fnExactPacksBases", unfollowed := true, recurses := true, apart := false, narrowed := true }
def FnExactPacksBasesUptoSaid : Prop := fnExactPacksBasesUptoRow.holds Try.pinned (OpenSpec.upto fnExactPacksBasesSpec)

/-- 'laws.FnExactLargestCommon', WHERE WHAT IT READS IS OF BULK AT MOST 1048576: true; the input reads as it did. -/
def fnExactLargestCommonUptoRow : OpenClaim := { program := "ytjbnldgnoloobaa", sum := "95b9dcf386681432ffdd3c3a7f0e977b5c1a2c950c22bcfe0fa524fcabb9700a", func := "loop.example/g03405/laws.FnExactLargestCommon", spec := "fnExactLargestCommon", unfollowed := true, recurses := true, apart := false, narrowed := true }
def FnExactLargestCommonUptoSaid : Prop := fnExactLargestCommonUptoRow.holds Try.pinned (OpenSpec.upto fnExactLargestCommonSpec)

/-- 'laws.FnExactPartsOf', WHERE WHAT IT READS IS OF BULK AT MOST 1048576: true; the input reads as it did. -/
def fnExactPartsOfUptoRow : OpenClaim := { program := "ytjbnldgnoloobaa", sum := "95b9dcf386681432ffdd3c3a7f0e977b5c1a2c950c22bcfe0fa524fcabb9700a", func := "loop.example/g03405/laws.FnExactPartsOf", spec := "fnExactPartsOf", unfollowed := true, recurses := true, apart := false, narrowed := true }
def FnExactPartsOfUptoSaid : Prop := fnExactPartsOfUptoRow.holds Try.pinned (OpenSpec.upto fnExactPartsOfSpec)

/-- 'laws.FnExactCommonVector', WHERE WHAT IT READS IS OF BULK AT MOST 1048576: true; the input reads as it did. -/
def fnExactCommonVectorUptoRow : OpenClaim := { program := "ytjbnldgnoloobaa", sum := "95b9dcf386681432ffdd3c3a7f0e977b5c1a2c950c22bcfe0fa524fcabb9700a", func := "loop.example/g03405/laws.FnExactCommonVector", spec := "fnExactCommonVector", unfollowed := true, recurses := true, apart := false, narrowed := true }
def FnExactCommonVectorUptoSaid : Prop := fnExactCommonVectorUptoRow.holds Try.pinned (OpenSpec.upto fnExactCommonVectorSpec)

/-- 'laws.FnExactLargestUnion', WHERE WHAT IT READS IS OF BULK AT MOST 1048576: true; the input reads as it did. -/
def fnExactLargestUnionUptoRow : OpenClaim := { program := "ytjbnldgnoloobaa", sum := "95b9dcf386681432ffdd3c3a7f0e977b5c1a2c950c22bcfe0fa524fcabb9700a", func := "loop.example/g03405/laws.FnExactLargestUnion", spec := "fnExactLargestUnion", unfollowed := true, recurses := true, apart := false, narrowed := true }
def FnExactLargestUnionUptoSaid : Prop := fnExactLargestUnionUptoRow.holds Try.pinned (OpenSpec.upto fnExactLargestUnionSpec)

/-- 'laws.FnExactDualRank', WHERE WHAT IT READS IS OF BULK AT MOST 1048576: true; the input reads as it did. -/
def fnExactDualRankUptoRow : OpenClaim := { program := "ytjbnldgnoloobaa", sum := "95b9dcf386681432ffdd3c3a7f0e977b5c1a2c950c22bcfe0fa524fcabb9700a", func := "loop.example/g03405/laws.FnExactDualRank", spec := "fnExactDualRank", unfollowed := true, recurses := true, apart := false, narrowed := true }
def FnExactDualRankUptoSaid : Prop := fnExactDualRankUptoRow.holds Try.pinned (OpenSpec.upto fnExactDualRankSpec)

/-- 'laws.FnExactUnionRank', WHERE WHAT IT READS IS OF BULK AT MOST 1048576: true; the input reads as it did. -/
def fnExactUnionRankUptoRow : OpenClaim := { program := "ytjbnldgnoloobaa", sum := "95b9dcf386681432ffdd3c3a7f0e977b5c1a2c950c22bcfe0fa524fcabb9700a", func := "loop.example/g03405/laws.FnExactUnionRank", spec := "fnExactUnionRank", unfollowed := true, recurses := true, apart := false, narrowed := true }
def FnExactUnionRankUptoSaid : Prop := fnExactUnionRankUptoRow.holds Try.pinned (OpenSpec.upto fnExactUnionRankSpec)

/-- 'laws.FnExactBasesOf', WHERE WHAT IT READS IS OF BULK AT MOST 1048576: true; the input reads as it did. -/
def fnExactBasesOfUptoRow : OpenClaim := { program := "ytjbnldgnoloobaa", sum := "95b9dcf386681432ffdd3c3a7f0e977b5c1a2c950c22bcfe0fa524fcabb9700a", func := "loop.example/g03405/laws.FnExactBasesOf", spec := "fnExactBasesOf", unfollowed := true, recurses := true, apart := false, narrowed := true }
def FnExactBasesOfUptoSaid : Prop := fnExactBasesOfUptoRow.holds Try.pinned (OpenSpec.upto fnExactBasesOfSpec)

/-- 'laws.FnExactRankFromBases', WHERE WHAT IT READS IS OF BULK AT MOST 1048576: true; the input reads as it did. -/
def fnExactRankFromBasesUptoRow : OpenClaim := { program := "ytjbnldgnoloobaa", sum := "95b9dcf386681432ffdd3c3a7f0e977b5c1a2c950c22bcfe0fa524fcabb9700a", func := "loop.example/g03405/laws.FnExactRankFromBases", spec := "fnExactRankFromBases", unfollowed := true, recurses := true, apart := false, narrowed := true }
def FnExactRankFromBasesUptoSaid : Prop := fnExactRankFromBasesUptoRow.holds Try.pinned (OpenSpec.upto fnExactRankFromBasesSpec)

/-- 'laws.FnExactCutByMerging', WHERE WHAT IT READS IS OF BULK AT MOST 1048576: true; the input reads as it did. -/
def fnExactCutByMergingUptoRow : OpenClaim := { program := "ytjbnldgnoloobaa", sum := "95b9dcf386681432ffdd3c3a7f0e977b5c1a2c950c22bcfe0fa524fcabb9700a", func := "loop.example/g03405/laws.FnExactCutByMerging", spec := "fnExactCutByMerging", unfollowed := true, recurses := true, apart := false, narrowed := true }
def FnExactCutByMergingUptoSaid : Prop := fnExactCutByMergingUptoRow.holds Try.pinned (OpenSpec.upto fnExactCutByMergingSpec)

/-- 'laws.FnExactCircuitsOf', WHERE WHAT IT READS IS OF BULK AT MOST 1048576: true; the input reads as it did. -/
def fnExactCircuitsOfUptoRow : OpenClaim := { program := "ytjbnldgnoloobaa", sum := "95b9dcf386681432ffdd3c3a7f0e977b5c1a2c950c22bcfe0fa524fcabb9700a", func := "loop.example/g03405/laws.FnExactCircuitsOf", spec := "fnExactCircuitsOf", unfollowed := true, recurses := true, apart := false, narrowed := true }
def FnExactCircuitsOfUptoSaid : Prop := fnExactCircuitsOfUptoRow.holds Try.pinned (OpenSpec.upto fnExactCircuitsOfSpec)

end Rows
end Go.Proofs.Ytjbnldgnoloobaa
