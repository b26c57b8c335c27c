/-
  No cell of these rows narrows 'for every input' (looked for: loops, veiled, ifaces, maps, wideKeys, modest, calm, conditions, laid).
  DERIVED. THE GIVEN ROWS OF THIS SEAT. 5 by the template 'for every input the law returns true; each argument reads behind the call as it read before'; 0 by the template 'total and deterministic' (their statements: YtjlpjkiadohkiaaTotals.lean).
  GIVEN WITH THE SEED: the statements are not yours to turn. If you find one false, say at which input.
  Laid BY PROGRAM, IN A SANDBOX (cutbox-rows.mjs): the forced cells as the released guide's own fill.sh prints them over the translation 53978b0da13b3590… (all of the seat's roots in one cut). By AI agents, Wed Nov 11 2026. No macro, syntax, notation, axiom, sorry.
-/
import Derived.Test.YtjlpjkiadohkiaaChecked
import GoSem.Claim
import GoSem.ClaimJoined
import GoSem.ClaimMapViews
import Derived.JoinedTies
import Derived.KernelRfl
namespace Go.Proofs.Ytjlpjkiadohkiaa
/- THE CELL 'sum', in the pinned program and in every row, IS THE sha256 OF THE DUMP (.gsa) THAT YtjlpjkiadohkiaaProg.lean LOADS. Nothing in Lean hashes anything: it is a label: what it is worth is what the hold of that sum in a sandbox is worth. -/
noncomputable def Try.pinned : Pinned := { name := "ytjlpjkiadohkiaa", sum := "53978b0da13b3590ad4177de34301dbd6fe0a35b1d10e134ab5c5e533cbd4b54", checked := Try.checked }
namespace Rows
def none {H : Type} : Left H := { results := [], args := [] }

/-- 'laws.FnUnion': WHATEVER THE INPUT: true; the input reads as it did. -/
def fnUnionSpec : ChangeSpec := { name := "fnUnion", fn := fun _ => fun
  | [d] => { results := [.lit (.bool true)], args := [d] }
  | _ => none }
def fnUnionRow : OpenClaim := { program := "ytjlpjkiadohkiaa", sum := "53978b0da13b3590ad4177de34301dbd6fe0a35b1d10e134ab5c5e533cbd4b54", func := "loop.example/g03405/laws.FnUnion", spec := "fnUnion", unfollowed := true, recurses := true, apart := false }
def FnUnionSaid : Prop := fnUnionRow.holds Try.pinned (OpenSpec.ofChange fnUnionSpec)

/-- ITS FALSE NEIGHBOUR: 'it returns false'. Refute it at one input. -/
def fnUnionWrong : ChangeSpec := { name := "fnUnion", fn := fun _ => fun
  | [d] => { results := [.lit (.bool false)], args := [d] }
  | _ => none }
def FnUnionWrongFalsely : Prop := fnUnionRow.holds Try.pinned (OpenSpec.ofChange fnUnionWrong)

/-- 'laws.FnIntersection': WHATEVER THE INPUT: true; the input reads as it did. -/
def fnIntersectionSpec : ChangeSpec := { name := "fnIntersection", fn := fun _ => fun
  | [d] => { results := [.lit (.bool true)], args := [d] }
  | _ => none }
def fnIntersectionRow : OpenClaim := { program := "ytjlpjkiadohkiaa", sum := "53978b0da13b3590ad4177de34301dbd6fe0a35b1d10e134ab5c5e533cbd4b54", func := "loop.example/g03405/laws.FnIntersection", spec := "fnIntersection", unfollowed := true, recurses := true, apart := false }
def FnIntersectionSaid : Prop := fnIntersectionRow.holds Try.pinned (OpenSpec.ofChange fnIntersectionSpec)

/-- ITS FALSE NEIGHBOUR: 'it returns false'. Refute it at one input. -/
def fnIntersectionWrong : ChangeSpec := { name := "fnIntersection", fn := fun _ => fun
  | [d] => { results := [.lit (.bool false)], args := [d] }
  | _ => none }
def FnIntersectionWrongFalsely : Prop := fnIntersectionRow.holds Try.pinned (OpenSpec.ofChange fnIntersectionWrong)

/-- 'laws.FnPendant': WHATEVER THE INPUT: true; the input reads as it did. -/
def fnPendantSpec : ChangeSpec := { name := "fnPendant", fn := fun _ => fun
  | [d] => { results := [.lit (.bool true)], args := [d] }
  | _ => none }
def fnPendantRow : OpenClaim := { program := "ytjlpjkiadohkiaa", sum := "53978b0da13b3590ad4177de34301dbd6fe0a35b1d10e134ab5c5e533cbd4b54", func := "loop.example/g03405/laws.FnPendant", spec := "fnPendant", unfollowed := true, recurses := true, apart := false }
def FnPendantSaid : Prop := fnPendantRow.holds Try.pinned (OpenSpec.ofChange fnPendantSpec)

/-- ITS FALSE NEIGHBOUR: 'it returns false'. Refute it at one input. -/
def fnPendantWrong : ChangeSpec := { name := "fnPendant", fn := fun _ => fun
  | [d] => { results := [.lit (.bool false)], args := [d] }
  | _ => none }
def FnPendantWrongFalsely : Prop := fnPendantRow.holds Try.pinned (OpenSpec.ofChange fnPendantWrong)

/-- 'laws.FnKinds': WHATEVER THE INPUT: true; the input reads as it did. -/
def fnKindsSpec : ChangeSpec := { name := "fnKinds", fn := fun _ => fun
  | [d] => { results := [.lit (.bool true)], args := [d] }
  | _ => none }
def fnKindsRow : OpenClaim := { program := "ytjlpjkiadohkiaa", sum := "53978b0da13b3590ad4177de34301dbd6fe0a35b1d10e134ab5c5e533cbd4b54", func := "loop.example/g03405/laws.FnKinds", spec := "fnKinds", unfollowed := true, recurses := true, apart := false }
def FnKindsSaid : Prop := fnKindsRow.holds Try.pinned (OpenSpec.ofChange fnKindsSpec)

/-- ITS FALSE NEIGHBOUR: 'it returns false'. Refute it at one input. -/
def fnKindsWrong : ChangeSpec := { name := "fnKinds", fn := fun _ => fun
  | [d] => { results := [.lit (.bool false)], args := [d] }
  | _ => none }
def FnKindsWrongFalsely : Prop := fnKindsRow.holds Try.pinned (OpenSpec.ofChange fnKindsWrong)

/-- 'laws.FnLaminar': WHATEVER THE INPUT: true; the input reads as it did. -/
def fnLaminarSpec : ChangeSpec := { name := "fnLaminar", fn := fun _ => fun
  | [d] => { results := [.lit (.bool true)], args := [d] }
  | _ => none }
def fnLaminarRow : OpenClaim := { program := "ytjlpjkiadohkiaa", sum := "53978b0da13b3590ad4177de34301dbd6fe0a35b1d10e134ab5c5e533cbd4b54", func := "loop.example/g03405/laws.FnLaminar", spec := "fnLaminar", recurses := true, apart := false }
def FnLaminarSaid : Prop := fnLaminarRow.holds Try.pinned (OpenSpec.ofChange fnLaminarSpec)

/-- ITS FALSE NEIGHBOUR: 'it returns false'. Refute it at one input. -/
def fnLaminarWrong : ChangeSpec := { name := "fnLaminar", fn := fun _ => fun
  | [d] => { results := [.lit (.bool false)], args := [d] }
  | _ => none }
def FnLaminarWrongFalsely : Prop := fnLaminarRow.holds Try.pinned (OpenSpec.ofChange fnLaminarWrong)

/- THE SECOND FORM. 'bulk': how many values and letters a reading holds, each counted each time it is reached (what is shared counts as often as it is met; a slice's spare places count too). A statement '..UptoSaid' is the law's where the arguments, and the package variables that the reading takes, are together of bulk at most 1048576: NARROWER than '..Said'. Prove '..Said' where nothing that the law and all that it calls make is longer than what came in: it says more and counts as full. Else prove '..UptoSaid'. A law counts once. -/
mutual
def uptoBulk {H : Type} : DataW H → Nat
  | .lit (.string bytes) => bytes.length + 1
  | .lit _ => 1
  | .nil => 1
  | .ptr d => uptoBulk d + 1
  | .slice elems spare => uptoBulkAll elems + uptoBulkAll spare + 1
  | .agg parts => uptoBulkAll parts + 1
  | .iface _ d => uptoBulk d + 1
  | .map entries => uptoBulkEntries entries + 1
  | .held _ => 1
def uptoBulkAll {H : Type} : List (DataW H) → Nat
  | [] => 0
  | d :: r => uptoBulk d + uptoBulkAll r
def uptoBulkEntries {H : Type} : List (Lit × DataW H) → Nat
  | [] => 0
  | x :: r => uptoBulkEntry x + uptoBulkEntries r
def uptoBulkEntry {H : Type} : Lit × DataW H → Nat
  | (.string bytes, d) => bytes.length + uptoBulk d + 1
  | (_, d) => uptoBulk d + 1
 end
def uptoSmall : (H : Type) → List (DataW H) → Bool := fun _ ds => decide (uptoBulkAll ds ≤ 1048576)
def OpenSpec.upto (s : _root_.Go.ChangeSpec) : _root_.Go.OpenSpec := { _root_.Go.OpenSpec.ofChange s with cond := some uptoSmall }

/-- 'laws.FnUnion', WHERE WHAT IT READS IS OF BULK AT MOST 1048576: true; the input reads as it did. -/
def fnUnionUptoRow : OpenClaim := { program := "ytjlpjkiadohkiaa", sum := "53978b0da13b3590ad4177de34301dbd6fe0a35b1d10e134ab5c5e533cbd4b54", func := "loop.example/g03405/laws.FnUnion", spec := "fnUnion", unfollowed := true, recurses := true, apart := false, narrowed := true }
def FnUnionUptoSaid : Prop := fnUnionUptoRow.holds Try.pinned (OpenSpec.upto fnUnionSpec)

/-- 'laws.FnIntersection', WHERE WHAT IT READS IS OF BULK AT MOST 1048576: true; the input reads as it did. -/
def fnIntersectionUptoRow : OpenClaim := { program := "ytjlpjkiadohkiaa", sum := "53978b0da13b3590ad4177de34301dbd6fe0a35b1d10e134ab5c5e533cbd4b54", func := "loop.example/g03405/laws.FnIntersection", spec := "fnIntersection", unfollowed := true, recurses := true, apart := false, narrowed := true }
def FnIntersectionUptoSaid : Prop := fnIntersectionUptoRow.holds Try.pinned (OpenSpec.upto fnIntersectionSpec)

/-- 'laws.FnPendant', WHERE WHAT IT READS IS OF BULK AT MOST 1048576: true; the input reads as it did. -/
def fnPendantUptoRow : OpenClaim := { program := "ytjlpjkiadohkiaa", sum := "53978b0da13b3590ad4177de34301dbd6fe0a35b1d10e134ab5c5e533cbd4b54", func := "loop.example/g03405/laws.FnPendant", spec := "fnPendant", unfollowed := true, recurses := true, apart := false, narrowed := true }
def FnPendantUptoSaid : Prop := fnPendantUptoRow.holds Try.pinned (OpenSpec.upto fnPendantSpec)

/-- 'laws.FnKinds', WHERE WHAT IT READS IS OF BULK AT MOST 1048576: true; the input reads as it did. -/
def fnKindsUptoRow : OpenClaim := { program := "ytjlpjkiadohkiaa", sum := "53978b0da13b3590ad4177de34301dbd6fe0a35b1d10e134ab5c5e533cbd4b54", func := "loop.example/g03405/laws.FnKinds", spec := "fnKinds", unfollowed := true, recurses := true, apart := false, narrowed := true }
def FnKindsUptoSaid : Prop := fnKindsUptoRow.holds Try.pinned (OpenSpec.upto fnKindsSpec)

/-- 'laws.FnLaminar', WHERE WHAT IT READS IS OF BULK AT MOST 1048576: true; the input reads as it did. -/
def fnLaminarUptoRow : OpenClaim := { program := "ytjlpjkiadohkiaa", sum := "53978b0da13b3590ad4177de34301dbd6fe0a35b1d10e134ab5c5e533cbd4b54", func := "loop.example/g03405/laws.FnLaminar", spec := "fnLaminar", recurses := true, apart := false, narrowed := true }
def FnLaminarUptoSaid : Prop := fnLaminarUptoRow.holds Try.pinned (OpenSpec.upto fnLaminarSpec)

end Rows
end Go.Proofs.Ytjlpjkiadohkiaa
