/-
  No cell of these rows narrows 'for every input' (looked for: loops, veiled, ifaces, maps, wideKeys, modest, calm, conditions, laid).
  DERIVED. THE GIVEN ROWS OF THIS SEAT. 7 by the template 'for every input the law returns true; each argument reads behind the call as it read before'; 0 by the template 'total and deterministic' (their statements: YtdicihmhkglfhaaTotals.lean).
  GIVEN WITH THE SEED: the statements are not yours to turn. If you find one false, say at which input.
  Laid BY PROGRAM, IN A SANDBOX (cutbox-rows.mjs): the forced cells as the released guide's own fill.sh prints them over the translation 014a3bb534b215d0… (all of the seat's roots in one cut). By AI agents, Wed Nov 11 2026. No macro, syntax, notation, axiom, sorry.
-/
import Derived.Test.YtdicihmhkglfhaaChecked
import GoSem.Claim
import GoSem.ClaimJoined
import GoSem.ClaimMapViews
import Derived.JoinedTies
import Derived.KernelRfl
namespace Go.Proofs.Ytdicihmhkglfhaa
/- THE CELL 'sum', in the pinned program and in every row, IS THE sha256 OF THE DUMP (.gsa) THAT YtdicihmhkglfhaaProg.lean LOADS. Nothing in Lean hashes anything: it is a label: what it is worth is what the hold of that sum in a sandbox is worth. -/
noncomputable def Try.pinned : Pinned := { name := "ytdicihmhkglfhaa", sum := "014a3bb534b215d002e796b8802f2ee89782b8342edf913eb1a99bb182b22d20", checked := Try.checked }
namespace Rows
def none {H : Type} : Left H := { results := [], args := [] }

/-- 'laws.FnExactCommonBases': WHATEVER THE INPUT: true; the input reads as it did. -/
def fnExactCommonBasesSpec : ChangeSpec := { name := "fnExactCommonBases", fn := fun _ => fun
  | [d1, d2] => { results := [.lit (.bool true)], args := [d1, d2] }
  | _ => none }
def fnExactCommonBasesRow : OpenClaim := { program := "ytdicihmhkglfhaa", sum := "014a3bb534b215d002e796b8802f2ee89782b8342edf913eb1a99bb182b22d20", func := "loop.example/g03405/laws.FnExactCommonBases", spec := "fnExactCommonBases", unfollowed := true, recurses := true, apart := false }
def FnExactCommonBasesSaid : Prop := fnExactCommonBasesRow.holds Try.pinned (OpenSpec.ofChange fnExactCommonBasesSpec)

/-- ITS FALSE NEIGHBOUR: 'it returns false'. Refute it at one input. -/
def fnExactCommonBasesWrong : ChangeSpec := { name := "fnExactCommonBases", fn := fun _ => fun
  | [d1, d2] => { results := [.lit (.bool false)], args := [d1, d2] }
  | _ => none }
def FnExactCommonBasesWrongFalsely : Prop := fnExactCommonBasesRow.holds Try.pinned (OpenSpec.ofChange fnExactCommonBasesWrong)

/-- 'laws.FnExactHeaviestBasis': WHATEVER THE INPUT: true; the input reads as it did. -/
def fnExactHeaviestBasisSpec : ChangeSpec := { name := "fnExactHeaviestBasis", fn := fun _ => fun
  | [d1, d2] => { results := [.lit (.bool true)], args := [d1, d2] }
  | _ => none }
def fnExactHeaviestBasisRow : OpenClaim := { program := "ytdicihmhkglfhaa", sum := "014a3bb534b215d002e796b8802f2ee89782b8342edf913eb1a99bb182b22d20", func := "loop.example/g03405/laws.FnExactHeaviestBasis", spec := "fnExactHeaviestBasis", unfollowed := true, recurses := true, apart := false }
def FnExactHeaviestBasisSaid : Prop := fnExactHeaviestBasisRow.holds Try.pinned (OpenSpec.ofChange fnExactHeaviestBasisSpec)

/-- ITS FALSE NEIGHBOUR: 'it returns false'. Refute it at one input. -/
def fnExactHeaviestBasisWrong : ChangeSpec := { name := "fnExactHeaviestBasis", fn := fun _ => fun
  | [d1, d2] => { results := [.lit (.bool false)], args := [d1, d2] }
  | _ => none }
def FnExactHeaviestBasisWrongFalsely : Prop := fnExactHeaviestBasisRow.holds Try.pinned (OpenSpec.ofChange fnExactHeaviestBasisWrong)

/-- 'laws.FnExactFamilyOf': WHATEVER THE INPUT: true; the input reads as it did. -/
def fnExactFamilyOfSpec : ChangeSpec := { name := "fnExactFamilyOf", fn := fun _ => fun
  | [d1, d2] => { results := [.lit (.bool true)], args := [d1, d2] }
  | _ => none }
def fnExactFamilyOfRow : OpenClaim := { program := "ytdicihmhkglfhaa", sum := "014a3bb534b215d002e796b8802f2ee89782b8342edf913eb1a99bb182b22d20", func := "loop.example/g03405/laws.FnExactFamilyOf", spec := "fnExactFamilyOf", recurses := true, apart := false }
def FnExactFamilyOfSaid : Prop := fnExactFamilyOfRow.holds Try.pinned (OpenSpec.ofChange fnExactFamilyOfSpec)

/-- ITS FALSE NEIGHBOUR: 'it returns false'. Refute it at one input. -/
def fnExactFamilyOfWrong : ChangeSpec := { name := "fnExactFamilyOf", fn := fun _ => fun
  | [d1, d2] => { results := [.lit (.bool false)], args := [d1, d2] }
  | _ => none }
def FnExactFamilyOfWrongFalsely : Prop := fnExactFamilyOfRow.holds Try.pinned (OpenSpec.ofChange fnExactFamilyOfWrong)

/-- 'laws.FnExactTracesOf': WHATEVER THE INPUT: true; the input reads as it did. -/
def fnExactTracesOfSpec : ChangeSpec := { name := "fnExactTracesOf", fn := fun _ => fun
  | [d1, d2] => { results := [.lit (.bool true)], args := [d1, d2] }
  | _ => none }
def fnExactTracesOfRow : OpenClaim := { program := "ytdicihmhkglfhaa", sum := "014a3bb534b215d002e796b8802f2ee89782b8342edf913eb1a99bb182b22d20", func := "loop.example/g03405/laws.FnExactTracesOf", spec := "fnExactTracesOf", recurses := true, apart := false }
def FnExactTracesOfSaid : Prop := fnExactTracesOfRow.holds Try.pinned (OpenSpec.ofChange fnExactTracesOfSpec)

/-- ITS FALSE NEIGHBOUR: 'it returns false'. Refute it at one input. -/
def fnExactTracesOfWrong : ChangeSpec := { name := "fnExactTracesOf", fn := fun _ => fun
  | [d1, d2] => { results := [.lit (.bool false)], args := [d1, d2] }
  | _ => none }
def FnExactTracesOfWrongFalsely : Prop := fnExactTracesOfRow.holds Try.pinned (OpenSpec.ofChange fnExactTracesOfWrong)

/-- 'laws.FnExactIsShattered': WHATEVER THE INPUT: true; the input reads as it did. -/
def fnExactIsShatteredSpec : ChangeSpec := { name := "fnExactIsShattered", fn := fun _ => fun
  | [d1, d2] => { results := [.lit (.bool true)], args := [d1, d2] }
  | _ => none }
def fnExactIsShatteredRow : OpenClaim := { program := "ytdicihmhkglfhaa", sum := "014a3bb534b215d002e796b8802f2ee89782b8342edf913eb1a99bb182b22d20", func := "loop.example/g03405/laws.FnExactIsShattered", spec := "fnExactIsShattered", recurses := true, apart := false }
def FnExactIsShatteredSaid : Prop := fnExactIsShatteredRow.holds Try.pinned (OpenSpec.ofChange fnExactIsShatteredSpec)

/-- ITS FALSE NEIGHBOUR: 'it returns false'. Refute it at one input. -/
def fnExactIsShatteredWrong : ChangeSpec := { name := "fnExactIsShattered", fn := fun _ => fun
  | [d1, d2] => { results := [.lit (.bool false)], args := [d1, d2] }
  | _ => none }
def FnExactIsShatteredWrongFalsely : Prop := fnExactIsShatteredRow.holds Try.pinned (OpenSpec.ofChange fnExactIsShatteredWrong)

/-- 'laws.FnExactLaminarHull': WHATEVER THE INPUT: true; the input reads as it did. -/
def fnExactLaminarHullSpec : ChangeSpec := { name := "fnExactLaminarHull", fn := fun _ => fun
  | [d] => { results := [.lit (.bool true)], args := [d] }
  | _ => none }
def fnExactLaminarHullRow : OpenClaim := { program := "ytdicihmhkglfhaa", sum := "014a3bb534b215d002e796b8802f2ee89782b8342edf913eb1a99bb182b22d20", func := "loop.example/g03405/laws.FnExactLaminarHull", spec := "fnExactLaminarHull", recurses := true, apart := false }
def FnExactLaminarHullSaid : Prop := fnExactLaminarHullRow.holds Try.pinned (OpenSpec.ofChange fnExactLaminarHullSpec)

/-- ITS FALSE NEIGHBOUR: 'it returns false'. Refute it at one input. -/
def fnExactLaminarHullWrong : ChangeSpec := { name := "fnExactLaminarHull", fn := fun _ => fun
  | [d] => { results := [.lit (.bool false)], args := [d] }
  | _ => none }
def FnExactLaminarHullWrongFalsely : Prop := fnExactLaminarHullRow.holds Try.pinned (OpenSpec.ofChange fnExactLaminarHullWrong)

/-- 'laws.FnExactGrowthOf': WHATEVER THE INPUT: true; the input reads as it did. -/
def fnExactGrowthOfSpec : ChangeSpec := { name := "fnExactGrowthOf", fn := fun _ => fun
  | [d] => { results := [.lit (.bool true)], args := [d] }
  | _ => none }
def fnExactGrowthOfRow : OpenClaim := { program := "ytdicihmhkglfhaa", sum := "014a3bb534b215d002e796b8802f2ee89782b8342edf913eb1a99bb182b22d20", func := "loop.example/g03405/laws.FnExactGrowthOf", spec := "fnExactGrowthOf", recurses := true, apart := false }
def FnExactGrowthOfSaid : Prop := fnExactGrowthOfRow.holds Try.pinned (OpenSpec.ofChange fnExactGrowthOfSpec)

/-- ITS FALSE NEIGHBOUR: 'it returns false'. Refute it at one input. -/
def fnExactGrowthOfWrong : ChangeSpec := { name := "fnExactGrowthOf", fn := fun _ => fun
  | [d] => { results := [.lit (.bool false)], args := [d] }
  | _ => none }
def FnExactGrowthOfWrongFalsely : Prop := fnExactGrowthOfRow.holds Try.pinned (OpenSpec.ofChange fnExactGrowthOfWrong)

/- THE SECOND FORM. 'bulk': how many values and letters a reading holds, each counted each time it is reached (what is shared counts as often as it is met; a slice's spare places count too). A statement '..UptoSaid' is the law's where the arguments, and the package variables that the reading takes, are together of bulk at most 1048576: NARROWER than '..Said'. Prove '..Said' where nothing that the law and all that it calls make is longer than what came in: it says more and counts as full. Else prove '..UptoSaid'. A law counts once. -/
mutual
def uptoBulk {H : Type} : DataW H → Nat
  | .lit (.string bytes) => bytes.length + 1
  | .lit _ => 1
  | .nil => 1
  | .ptr d => uptoBulk d + 1
  | .slice elems spare => uptoBulkAll elems + uptoBulkAll spare + 1
  | .agg parts => uptoBulkAll parts + 1
  | .iface _ d => uptoBulk d + 1
  | .map entries => uptoBulkEntries entries + 1
  | .held _ => 1
def uptoBulkAll {H : Type} : List (DataW H) → Nat
  | [] => 0
  | d :: r => uptoBulk d + uptoBulkAll r
def uptoBulkEntries {H : Type} : List (Lit × DataW H) → Nat
  | [] => 0
  | x :: r => uptoBulkEntry x + uptoBulkEntries r
def uptoBulkEntry {H : Type} : Lit × DataW H → Nat
  | (.string bytes, d) => bytes.length + uptoBulk d + 1
  | (_, d) => uptoBulk d + 1
 end
def uptoSmall : (H : Type) → List (DataW H) → Bool := fun _ ds => decide (uptoBulkAll ds ≤ 1048576)
def OpenSpec.upto (s : _root_.Go.ChangeSpec) : _root_.Go.OpenSpec := { _root_.Go.OpenSpec.ofChange s with cond := some uptoSmall }

/-- 'laws.FnExactCommonBases', WHERE WHAT IT READS IS OF BULK AT MOST 1048576: true; the input reads as it did. -/
def fnExactCommonBasesUptoRow : OpenClaim := { program := "ytdicihmhkglfhaa", sum := "014a3bb534b215d002e796b8802f2ee89782b8342edf913eb1a99bb182b22d20", func := "loop.example/g03405/laws.FnExactCommonBases", spec := "fnExactCommonBases", unfollowed := true, recurses := true, apart := false, narrowed := true }
def FnExactCommonBasesUptoSaid : Prop := fnExactCommonBasesUptoRow.holds Try.pinned (OpenSpec.upto fnExactCommonBasesSpec)

/-- 'laws.FnExactHeaviestBasis', WHERE WHAT IT READS IS OF BULK AT MOST 1048576: true; the input reads as it did. -/
def fnExactHeaviestBasisUptoRow : OpenClaim := { program := "ytdicihmhkglfhaa", sum := "014a3bb534b215d002e796b8802f2ee89782b8342edf913eb1a99bb182b22d20", func := "loop.example/g03405/laws.FnExactHeaviestBasis", spec := "fnExactHeaviestBasis", unfollowed := true, recurses := true, apart := false, narrowed := true }
def FnExactHeaviestBasisUptoSaid : Prop := fnExactHeaviestBasisUptoRow.holds Try.pinned (OpenSpec.upto fnExactHeaviestBasisSpec)

/-- 'laws.FnExactFamilyOf', WHERE WHAT IT READS IS OF BULK AT MOST 1048576: true; the input reads as it did. -/
def fnExactFamilyOfUptoRow : OpenClaim := { program := "ytdicihmhkglfhaa", sum := "014a3bb534b215d002e796b8802f2ee89782b8342edf913eb1a99bb182b22d20", func := "loop.example/g03405/laws.FnExactFamilyOf", spec := "fnExactFamilyOf", recurses := true, apart := false, narrowed := true }
def FnExactFamilyOfUptoSaid : Prop := fnExactFamilyOfUptoRow.holds Try.pinned (OpenSpec.upto fnExactFamilyOfSpec)

/-- 'laws.FnExactTracesOf', WHERE WHAT IT READS IS OF BULK AT MOST 1048576: true; the input reads as it did. -/
def fnExactTracesOfUptoRow : OpenClaim := { program := "ytdicihmhkglfhaa", sum := "014a3bb534b215d002e796b8802f2ee89782b8342edf913eb1a99bb182b22d20", func := "loop.example/g03405/laws.FnExactTracesOf", spec := "fnExactTracesOf", recurses := true, apart := false, narrowed := true }
def FnExactTracesOfUptoSaid : Prop := fnExactTracesOfUptoRow.holds Try.pinned (OpenSpec.upto fnExactTracesOfSpec)

/-- 'laws.FnExactIsShattered', WHERE WHAT IT READS IS OF BULK AT MOST 1048576: true; the input reads as it did. -/
def fnExactIsShatteredUptoRow : OpenClaim := { program := "ytdicihmhkglfhaa", sum := "014a3bb534b215d002e796b8802f2ee89782b8342edf913eb1a99bb182b22d20", func := "loop.example/g03405/laws.FnExactIsShattered", spec := "fnExactIsShattered", recurses := true, apart := false, narrowed := true }
def FnExactIsShatteredUptoSaid : Prop := fnExactIsShatteredUptoRow.holds Try.pinned (OpenSpec.upto fnExactIsShatteredSpec)

/-- 'laws.FnExactLaminarHull', WHERE WHAT IT READS IS OF BULK AT MOST 1048576: true; the input reads as it did. -/
def fnExactLaminarHullUptoRow : OpenClaim := { program := "ytdicihmhkglfhaa", sum := "014a3bb534b215d002e796b8802f2ee89782b8342edf913eb1a99bb182b22d20", func := "loop.example/g03405/laws.FnExactLaminarHull", spec := "fnExactLaminarHull", recurses := true, apart := false, narrowed := true }
def FnExactLaminarHullUptoSaid : Prop := fnExactLaminarHullUptoRow.holds Try.pinned (OpenSpec.upto fnExactLaminarHullSpec)

/-- 'laws.FnExactGrowthOf', WHERE WHAT IT READS IS OF BULK AT MOST 1048576: true; the input reads as it did. -/
def fnExactGrowthOfUptoRow : OpenClaim := { program := "ytdicihmhkglfhaa", sum := "014a3bb534b215d002e796b8802f2ee89782b8342edf913eb1a99bb182b22d20", func := "loop.example/g03405/laws.FnExactGrowthOf", spec := "fnExactGrowthOf", recurses := true, apart := false, narrowed := true }
def FnExactGrowthOfUptoSaid : Prop := fnExactGrowthOfUptoRow.holds Try.pinned (OpenSpec.upto fnExactGrowthOfSpec)

end Rows
end Go.Proofs.Ytdicihmhkglfhaa
