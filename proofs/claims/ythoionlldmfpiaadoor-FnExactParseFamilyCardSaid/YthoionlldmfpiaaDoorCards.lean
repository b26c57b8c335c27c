/-
  DERIVED. GIVEN WITH THE SEED: THE CARDS: each row of YthoionlldmfpiaaDoorRows.lean that lists a variable, with what it lists TIED to the program's text (the seventh form; the later family's looks); each row that meets fmt, with fmt's text TOLD by the authors' own Lean function (tested against real Go, not proved from fmt's source: count such statements apart). THE CARD IS WHAT COUNTS. Prove the row's statement (the work); the ties are given (YthoionlldmfpiaaDoorTie.lean); close each card by the builder's one call (the guide's Derived/Test/ToyasCard.lean, 'card_holds'). Laid BY PROGRAM, IN A SANDBOX (cutbox-door.mjs). By AI agents, Wed Nov 11 2026. No macro, syntax, notation, axiom, sorry.
-/
import Derived.Test.YthoionlldmfpiaaDoorRows
import GoSem.ClaimSeven
namespace Go.Proofs.YthoionlldmfpiaaDoor
namespace Rows

/-- THE TIED CARD OF 'laws.FnExactFormatSet'. -/
def fnExactFormatSetCard : Claim7 := { stood := { row := fnExactFormatSetRow, standIns := [], harness := (true, "abdb0880c6307548652e6b79b428bb8e0971a17fcc8fe195d98e561882a2bff8"), looks := false }, kinds := [], alts := [], laidByText := true, laidKinds := [.data, .data, .data], laidTests := true, laidLooks := .later }
def FnExactFormatSetCardSaid : Prop := Claim7.holds Tryd.pinned (.plain (OpenSpec.ofChange fnExactFormatSetSpec)) fnExactFormatSetCard

/-- THE TIED CARD OF 'laws.FnExactFormatFamily'. -/
def fnExactFormatFamilyCard : Claim7 := { stood := { row := fnExactFormatFamilyRow, standIns := [], harness := (true, "abdb0880c6307548652e6b79b428bb8e0971a17fcc8fe195d98e561882a2bff8"), looks := false }, kinds := [], alts := [], laidByText := true, laidKinds := [.data, .data, .data], laidTests := true, laidLooks := .later }
def FnExactFormatFamilyCardSaid : Prop := Claim7.holds Tryd.pinned (.plain (OpenSpec.ofChange fnExactFormatFamilySpec)) fnExactFormatFamilyCard

/-- THE TIED CARD OF 'laws.FnExactParseSet'. -/
def fnExactParseSetCard : Claim7 := { stood := { row := fnExactParseSetRow, standIns := [], harness := (true, "abdb0880c6307548652e6b79b428bb8e0971a17fcc8fe195d98e561882a2bff8"), looks := false }, kinds := [], alts := [], laidByText := true, laidKinds := [.data, .data, .data, .data, .pinned], laidTests := true, laidLooks := .later }
def FnExactParseSetCardSaid : Prop := Claim7.holds Tryd.pinned (.plain (OpenSpec.ofChange fnExactParseSetSpec)) fnExactParseSetCard

/-- THE TIED CARD OF 'laws.FnExactParseFamily'. -/
def fnExactParseFamilyCard : Claim7 := { stood := { row := fnExactParseFamilyRow, standIns := [], harness := (true, "abdb0880c6307548652e6b79b428bb8e0971a17fcc8fe195d98e561882a2bff8"), looks := false }, kinds := [], alts := [], laidByText := true, laidKinds := [.data, .data, .data, .data, .pinned], laidTests := true, laidLooks := .later }
def FnExactParseFamilyCardSaid : Prop := Claim7.holds Tryd.pinned (.plain (OpenSpec.ofChange fnExactParseFamilySpec)) fnExactParseFamilyCard

/-- THE SECOND FORM's CARD OF 'laws.FnExactFormatSet'. -/
def fnExactFormatSetUptoCard : Claim7 := { stood := { row := fnExactFormatSetUptoRow, standIns := [], harness := (true, "abdb0880c6307548652e6b79b428bb8e0971a17fcc8fe195d98e561882a2bff8"), looks := false }, kinds := [], alts := [], laidByText := true, laidKinds := [.data, .data, .data], laidTests := true, laidLooks := .later }
def FnExactFormatSetUptoCardSaid : Prop := Claim7.holds Tryd.pinned (.plain (OpenSpec.upto fnExactFormatSetSpec)) fnExactFormatSetUptoCard

/-- THE SECOND FORM's CARD OF 'laws.FnExactFormatFamily'. -/
def fnExactFormatFamilyUptoCard : Claim7 := { stood := { row := fnExactFormatFamilyUptoRow, standIns := [], harness := (true, "abdb0880c6307548652e6b79b428bb8e0971a17fcc8fe195d98e561882a2bff8"), looks := false }, kinds := [], alts := [], laidByText := true, laidKinds := [.data, .data, .data], laidTests := true, laidLooks := .later }
def FnExactFormatFamilyUptoCardSaid : Prop := Claim7.holds Tryd.pinned (.plain (OpenSpec.upto fnExactFormatFamilySpec)) fnExactFormatFamilyUptoCard

/-- THE SECOND FORM's CARD OF 'laws.FnExactParseSet'. -/
def fnExactParseSetUptoCard : Claim7 := { stood := { row := fnExactParseSetUptoRow, standIns := [], harness := (true, "abdb0880c6307548652e6b79b428bb8e0971a17fcc8fe195d98e561882a2bff8"), looks := false }, kinds := [], alts := [], laidByText := true, laidKinds := [.data, .data, .data, .data, .pinned], laidTests := true, laidLooks := .later }
def FnExactParseSetUptoCardSaid : Prop := Claim7.holds Tryd.pinned (.plain (OpenSpec.upto fnExactParseSetSpec)) fnExactParseSetUptoCard

/-- THE SECOND FORM's CARD OF 'laws.FnExactParseFamily'. -/
def fnExactParseFamilyUptoCard : Claim7 := { stood := { row := fnExactParseFamilyUptoRow, standIns := [], harness := (true, "abdb0880c6307548652e6b79b428bb8e0971a17fcc8fe195d98e561882a2bff8"), looks := false }, kinds := [], alts := [], laidByText := true, laidKinds := [.data, .data, .data, .data, .pinned], laidTests := true, laidLooks := .later }
def FnExactParseFamilyUptoCardSaid : Prop := Claim7.holds Tryd.pinned (.plain (OpenSpec.upto fnExactParseFamilySpec)) fnExactParseFamilyUptoCard
end Rows
end Go.Proofs.YthoionlldmfpiaaDoor
