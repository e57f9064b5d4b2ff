/-
  DERIVED. GIVEN WITH THE SEED: THE CARDS: each row of YtmjpbmcbcppkfaaGreatDoorRows.lean that lists a variable, with what it lists TIED to the program's text (the seventh form; the later family's looks); each row that meets fmt, with fmt's text TOLD by the authors' own Lean function (tested against real Go, not proved from fmt's source: count such statements apart). THE CARD IS WHAT COUNTS. Prove the row's statement (the work); the ties are given (YtmjpbmcbcppkfaaGreatDoorTie.lean); close each card by the builder's one call (the guide's Derived/Test/ToyasCard.lean, 'card_holds'). Laid BY PROGRAM, IN A SANDBOX (cutbox-door.mjs). By AI agents, Wed Nov 11 2026. No macro, syntax, notation, axiom, sorry.
-/
import Derived.Test.YtmjpbmcbcppkfaaGreatDoorRows
import GoSem.ClaimSeven
namespace Go.Proofs.YtmjpbmcbcppkfaaGreatDoor
namespace Rows

/-- THE TIED CARD OF 'lintellaw23.VarsJoins'. -/
def varsJoinsCard : Claim7 := { stood := { row := varsJoinsRow, standIns := [], harness := (true, "3aa93031417bee0aa8ae311b9cd93957e6ba5281bacc5781a1dde6edfedd39ab"), looks := true }, kinds := [], alts := [], laidByText := true, laidKinds := [.data, .widerDeep, .widerDeep, .widerDeep, .widerDeep, .widerDeep], laidTests := true, laidLooks := .later }
def VarsJoinsCardSaid : Prop := Claim7.holds Tryz.pinned (.plain (OpenSpec.ofChange varsJoinsSpec)) varsJoinsCard

/-- THE TIED CARD OF 'lintellaw23.VarsFull'. -/
def varsFullCard : Claim7 := { stood := { row := varsFullRow, standIns := [], harness := (true, "3aa93031417bee0aa8ae311b9cd93957e6ba5281bacc5781a1dde6edfedd39ab"), looks := true }, kinds := [], alts := [], laidByText := true, laidKinds := [.data, .widerDeep, .widerDeep, .widerDeep, .widerDeep, .widerDeep], laidTests := true, laidLooks := .later }
def VarsFullCardSaid : Prop := Claim7.holds Tryz.pinned (.plain (OpenSpec.ofChange varsFullSpec)) varsFullCard

/-- THE TIED CARD OF 'lintellaw23.VarsNil'. -/
def varsNilCard : Claim7 := { stood := { row := varsNilRow, standIns := [], harness := (true, "3aa93031417bee0aa8ae311b9cd93957e6ba5281bacc5781a1dde6edfedd39ab"), looks := true }, kinds := [], alts := [], laidByText := true, laidKinds := [.data, .widerDeep, .widerDeep, .widerDeep, .widerDeep, .widerDeep], laidTests := true, laidLooks := .later }
def VarsNilCardSaid : Prop := Claim7.holds Tryz.pinned (.plain (OpenSpec.ofChange varsNilSpec)) varsNilCard

/-- THE SECOND FORM's CARD OF 'lintellaw23.VarsJoins'. -/
def varsJoinsUptoCard : Claim7 := { stood := { row := varsJoinsUptoRow, standIns := [], harness := (true, "3aa93031417bee0aa8ae311b9cd93957e6ba5281bacc5781a1dde6edfedd39ab"), looks := true }, kinds := [], alts := [], laidByText := true, laidKinds := [.data, .widerDeep, .widerDeep, .widerDeep, .widerDeep, .widerDeep], laidTests := true, laidLooks := .later }
def VarsJoinsUptoCardSaid : Prop := Claim7.holds Tryz.pinned (.plain (OpenSpec.upto varsJoinsSpec)) varsJoinsUptoCard

/-- THE SECOND FORM's CARD OF 'lintellaw23.VarsFull'. -/
def varsFullUptoCard : Claim7 := { stood := { row := varsFullUptoRow, standIns := [], harness := (true, "3aa93031417bee0aa8ae311b9cd93957e6ba5281bacc5781a1dde6edfedd39ab"), looks := true }, kinds := [], alts := [], laidByText := true, laidKinds := [.data, .widerDeep, .widerDeep, .widerDeep, .widerDeep, .widerDeep], laidTests := true, laidLooks := .later }
def VarsFullUptoCardSaid : Prop := Claim7.holds Tryz.pinned (.plain (OpenSpec.upto varsFullSpec)) varsFullUptoCard

/-- THE SECOND FORM's CARD OF 'lintellaw23.VarsNil'. -/
def varsNilUptoCard : Claim7 := { stood := { row := varsNilUptoRow, standIns := [], harness := (true, "3aa93031417bee0aa8ae311b9cd93957e6ba5281bacc5781a1dde6edfedd39ab"), looks := true }, kinds := [], alts := [], laidByText := true, laidKinds := [.data, .widerDeep, .widerDeep, .widerDeep, .widerDeep, .widerDeep], laidTests := true, laidLooks := .later }
def VarsNilUptoCardSaid : Prop := Claim7.holds Tryz.pinned (.plain (OpenSpec.upto varsNilSpec)) varsNilUptoCard
end Rows
end Go.Proofs.YtmjpbmcbcppkfaaGreatDoor
