/-
  DERIVED. GIVEN WITH THE SEED: THE CARDS: each row of YtebilmfljoiaeaaDoorRows.lean that lists a variable, with what it lists TIED to the program's text (the seventh form; the later family's looks); each row that meets fmt, with fmt's text TOLD by the authors' own Lean function (tested against real Go, not proved from fmt's source: count such statements apart). THE CARD IS WHAT COUNTS. Prove the row's statement (the work); the ties are given (YtebilmfljoiaeaaDoorTie.lean); close each card by the builder's one call (the guide's Derived/Test/ToyasCard.lean, 'card_holds'). Laid BY PROGRAM, IN A SANDBOX (cutbox-door.mjs). By AI agents, Wed Nov 11 2026. No macro, syntax, notation, axiom, sorry.
-/
import Derived.Test.YtebilmfljoiaeaaDoorRows
import GoSem.ClaimSeven
namespace Go.Proofs.YtebilmfljoiaeaaDoor
namespace Rows

/-- THE TIED CARD OF 'lintellaw09.NvramRound'. -/
def nvramRoundCard : Claim7 := { stood := { row := nvramRoundRow, standIns := [], harness := (true, "ade91788881ebd9d5b6f57419a77ad96b1dc8fd2cc619ebc2176d136d0a927d1"), looks := false }, kinds := [], alts := [], laidByText := true, laidKinds := [.data], laidTests := true, laidLooks := .later }
def NvramRoundCardSaid : Prop := Claim7.holds Tryd.pinned (.plain (OpenSpec.ofChange nvramRoundSpec)) nvramRoundCard

/-- THE TIED CARD OF 'lintellaw09.NvramNil'. -/
def nvramNilCard : Claim7 := { stood := { row := nvramNilRow, standIns := [], harness := (true, "ade91788881ebd9d5b6f57419a77ad96b1dc8fd2cc619ebc2176d136d0a927d1"), looks := false }, kinds := [], alts := [], laidByText := true, laidKinds := [.data], laidTests := true, laidLooks := .later }
def NvramNilCardSaid : Prop := Claim7.holds Tryd.pinned (.plain (OpenSpec.ofChange nvramNilSpec)) nvramNilCard

/-- THE SECOND FORM's CARD OF 'lintellaw09.NvramRound'. -/
def nvramRoundUptoCard : Claim7 := { stood := { row := nvramRoundUptoRow, standIns := [], harness := (true, "ade91788881ebd9d5b6f57419a77ad96b1dc8fd2cc619ebc2176d136d0a927d1"), looks := false }, kinds := [], alts := [], laidByText := true, laidKinds := [.data], laidTests := true, laidLooks := .later }
def NvramRoundUptoCardSaid : Prop := Claim7.holds Tryd.pinned (.plain (OpenSpec.upto nvramRoundSpec)) nvramRoundUptoCard

/-- THE SECOND FORM's CARD OF 'lintellaw09.NvramNil'. -/
def nvramNilUptoCard : Claim7 := { stood := { row := nvramNilUptoRow, standIns := [], harness := (true, "ade91788881ebd9d5b6f57419a77ad96b1dc8fd2cc619ebc2176d136d0a927d1"), looks := false }, kinds := [], alts := [], laidByText := true, laidKinds := [.data], laidTests := true, laidLooks := .later }
def NvramNilUptoCardSaid : Prop := Claim7.holds Tryd.pinned (.plain (OpenSpec.upto nvramNilSpec)) nvramNilUptoCard
end Rows
end Go.Proofs.YtebilmfljoiaeaaDoor
