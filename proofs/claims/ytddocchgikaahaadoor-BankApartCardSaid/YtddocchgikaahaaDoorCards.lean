/-
  DERIVED. GIVEN WITH THE SEED: THE CARDS: each row of YtddocchgikaahaaDoorRows.lean that lists a variable, with what it lists TIED to the program's text (the seventh form; the later family's looks); each row that meets fmt, with fmt's text TOLD by the authors' own Lean function (tested against real Go, not proved from fmt's source: count such statements apart). THE CARD IS WHAT COUNTS. Prove the row's statement (the work); the ties are given (YtddocchgikaahaaDoorTie.lean); close each card by the builder's one call (the guide's Derived/Test/ToyasCard.lean, 'card_holds'). Laid BY PROGRAM, IN A SANDBOX (cutbox-door.mjs). By AI agents, Wed Nov 11 2026. No macro, syntax, notation, axiom, sorry.
-/
import Derived.Test.YtddocchgikaahaaDoorRows
import GoSem.ClaimSeven
namespace Go.Proofs.YtddocchgikaahaaDoor
namespace Rows

/-- THE TIED CARD OF 'lintellaw08.BankHolds'. -/
def bankHoldsCard : Claim7 := { stood := { row := bankHoldsRow, standIns := [], harness := (true, "712490816b74c80573ccfc650fb70f4df9a09ff6625a88fbda76a1177da75137"), looks := false }, kinds := [], alts := [], laidByText := true, laidKinds := [.data], laidTests := true, laidLooks := .later }
def BankHoldsCardSaid : Prop := Claim7.holds Tryd.pinned (.plain (OpenSpec.ofChange bankHoldsSpec)) bankHoldsCard

/-- THE TIED CARD OF 'lintellaw08.BankFalls'. -/
def bankFallsCard : Claim7 := { stood := { row := bankFallsRow, standIns := [], harness := (true, "712490816b74c80573ccfc650fb70f4df9a09ff6625a88fbda76a1177da75137"), looks := false }, kinds := [], alts := [], laidByText := true, laidKinds := [.data], laidTests := true, laidLooks := .later }
def BankFallsCardSaid : Prop := Claim7.holds Tryd.pinned (.plain (OpenSpec.ofChange bankFallsSpec)) bankFallsCard

/-- THE TIED CARD OF 'lintellaw08.BankKills'. -/
def bankKillsCard : Claim7 := { stood := { row := bankKillsRow, standIns := [], harness := (true, "712490816b74c80573ccfc650fb70f4df9a09ff6625a88fbda76a1177da75137"), looks := false }, kinds := [], alts := [], laidByText := true, laidKinds := [.data], laidTests := true, laidLooks := .later }
def BankKillsCardSaid : Prop := Claim7.holds Tryd.pinned (.plain (OpenSpec.ofChange bankKillsSpec)) bankKillsCard

/-- THE TIED CARD OF 'lintellaw08.BankNil'. -/
def bankNilCard : Claim7 := { stood := { row := bankNilRow, standIns := [], harness := (true, "712490816b74c80573ccfc650fb70f4df9a09ff6625a88fbda76a1177da75137"), looks := false }, kinds := [], alts := [], laidByText := true, laidKinds := [.data], laidTests := true, laidLooks := .later }
def BankNilCardSaid : Prop := Claim7.holds Tryd.pinned (.plain (OpenSpec.ofChange bankNilSpec)) bankNilCard

/-- THE TIED CARD OF 'lintellaw08.BankApart'. -/
def bankApartCard : Claim7 := { stood := { row := bankApartRow, standIns := [], harness := (true, "712490816b74c80573ccfc650fb70f4df9a09ff6625a88fbda76a1177da75137"), looks := false }, kinds := [], alts := [], laidByText := true, laidKinds := [.data], laidTests := true, laidLooks := .later }
def BankApartCardSaid : Prop := Claim7.holds Tryd.pinned (.plain (OpenSpec.ofChange bankApartSpec)) bankApartCard

/-- THE TIED CARD OF 'lintellaw08.BankHeads'. -/
def bankHeadsCard : Claim7 := { stood := { row := bankHeadsRow, standIns := [], harness := (true, "712490816b74c80573ccfc650fb70f4df9a09ff6625a88fbda76a1177da75137"), looks := false }, kinds := [], alts := [], laidByText := true, laidKinds := [.data], laidTests := true, laidLooks := .later }
def BankHeadsCardSaid : Prop := Claim7.holds Tryd.pinned (.plain (OpenSpec.ofChange bankHeadsSpec)) bankHeadsCard

/-- THE SECOND FORM's CARD OF 'lintellaw08.BankHolds'. -/
def bankHoldsUptoCard : Claim7 := { stood := { row := bankHoldsUptoRow, standIns := [], harness := (true, "712490816b74c80573ccfc650fb70f4df9a09ff6625a88fbda76a1177da75137"), looks := false }, kinds := [], alts := [], laidByText := true, laidKinds := [.data], laidTests := true, laidLooks := .later }
def BankHoldsUptoCardSaid : Prop := Claim7.holds Tryd.pinned (.plain (OpenSpec.upto bankHoldsSpec)) bankHoldsUptoCard

/-- THE SECOND FORM's CARD OF 'lintellaw08.BankFalls'. -/
def bankFallsUptoCard : Claim7 := { stood := { row := bankFallsUptoRow, standIns := [], harness := (true, "712490816b74c80573ccfc650fb70f4df9a09ff6625a88fbda76a1177da75137"), looks := false }, kinds := [], alts := [], laidByText := true, laidKinds := [.data], laidTests := true, laidLooks := .later }
def BankFallsUptoCardSaid : Prop := Claim7.holds Tryd.pinned (.plain (OpenSpec.upto bankFallsSpec)) bankFallsUptoCard

/-- THE SECOND FORM's CARD OF 'lintellaw08.BankKills'. -/
def bankKillsUptoCard : Claim7 := { stood := { row := bankKillsUptoRow, standIns := [], harness := (true, "712490816b74c80573ccfc650fb70f4df9a09ff6625a88fbda76a1177da75137"), looks := false }, kinds := [], alts := [], laidByText := true, laidKinds := [.data], laidTests := true, laidLooks := .later }
def BankKillsUptoCardSaid : Prop := Claim7.holds Tryd.pinned (.plain (OpenSpec.upto bankKillsSpec)) bankKillsUptoCard

/-- THE SECOND FORM's CARD OF 'lintellaw08.BankNil'. -/
def bankNilUptoCard : Claim7 := { stood := { row := bankNilUptoRow, standIns := [], harness := (true, "712490816b74c80573ccfc650fb70f4df9a09ff6625a88fbda76a1177da75137"), looks := false }, kinds := [], alts := [], laidByText := true, laidKinds := [.data], laidTests := true, laidLooks := .later }
def BankNilUptoCardSaid : Prop := Claim7.holds Tryd.pinned (.plain (OpenSpec.upto bankNilSpec)) bankNilUptoCard

/-- THE SECOND FORM's CARD OF 'lintellaw08.BankApart'. -/
def bankApartUptoCard : Claim7 := { stood := { row := bankApartUptoRow, standIns := [], harness := (true, "712490816b74c80573ccfc650fb70f4df9a09ff6625a88fbda76a1177da75137"), looks := false }, kinds := [], alts := [], laidByText := true, laidKinds := [.data], laidTests := true, laidLooks := .later }
def BankApartUptoCardSaid : Prop := Claim7.holds Tryd.pinned (.plain (OpenSpec.upto bankApartSpec)) bankApartUptoCard

/-- THE SECOND FORM's CARD OF 'lintellaw08.BankHeads'. -/
def bankHeadsUptoCard : Claim7 := { stood := { row := bankHeadsUptoRow, standIns := [], harness := (true, "712490816b74c80573ccfc650fb70f4df9a09ff6625a88fbda76a1177da75137"), looks := false }, kinds := [], alts := [], laidByText := true, laidKinds := [.data], laidTests := true, laidLooks := .later }
def BankHeadsUptoCardSaid : Prop := Claim7.holds Tryd.pinned (.plain (OpenSpec.upto bankHeadsSpec)) bankHeadsUptoCard
end Rows
end Go.Proofs.YtddocchgikaahaaDoor
