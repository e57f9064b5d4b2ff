/-
  DERIVED. GIVEN WITH THE SEED: THE CARDS: each row of YtpbpiehcchannaaGreatDoorRows.lean that lists a variable, with what it lists TIED to the program's text (the seventh form; the later family's looks); each row that meets fmt, with fmt's text TOLD by the authors' own Lean function (tested against real Go, not proved from fmt's source: count such statements apart). THE CARD IS WHAT COUNTS. Prove the row's statement (the work); the ties are given (YtpbpiehcchannaaGreatDoorTie.lean); close each card by the builder's one call (the guide's Derived/Test/ToyasCard.lean, 'card_holds'). Laid BY PROGRAM, IN A SANDBOX (cutbox-door.mjs). By AI agents, Wed Nov 11 2026. No macro, syntax, notation, axiom, sorry.
-/
import Derived.Test.YtpbpiehcchannaaGreatDoorRows
import GoSem.ClaimSeven
namespace Go.Proofs.YtpbpiehcchannaaGreatDoor
namespace Rows

/-- THE TIED CARD OF 'lintellaw09.NvramStill'. -/
def nvramStillCard : Claim7 := { stood := { row := nvramStillRow, standIns := [], harness := (true, "070bf280a40fa8b0f63cb5eb5f3557e491aa034716a6c05bdce81c18d7524132"), looks := false }, kinds := [], alts := [], laidByText := true, laidKinds := [.data], laidTests := true, laidLooks := .later }
def NvramStillCardSaid : Prop := Claim7.holds Tryz.pinned (.plain (OpenSpec.ofChange nvramStillSpec)) nvramStillCard

/-- THE TIED CARD OF 'lintellaw09.NvramMaps'. -/
def nvramMapsCard : Claim7 := { stood := { row := nvramMapsRow, standIns := [], harness := (true, "070bf280a40fa8b0f63cb5eb5f3557e491aa034716a6c05bdce81c18d7524132"), looks := false }, kinds := [], alts := [], laidByText := true, laidKinds := [.data], laidTests := true, laidLooks := .later }
def NvramMapsCardSaid : Prop := Claim7.holds Tryz.pinned (.plain (OpenSpec.ofChange nvramMapsSpec)) nvramMapsCard

/-- THE TIED CARD OF 'lintellaw09.NvramLasts'. -/
def nvramLastsCard : Claim7 := { stood := { row := nvramLastsRow, standIns := [], harness := (true, "070bf280a40fa8b0f63cb5eb5f3557e491aa034716a6c05bdce81c18d7524132"), looks := false }, kinds := [], alts := [], laidByText := true, laidKinds := [.data], laidTests := true, laidLooks := .later }
def NvramLastsCardSaid : Prop := Claim7.holds Tryz.pinned (.plain (OpenSpec.ofChange nvramLastsSpec)) nvramLastsCard

/-- THE TIED CARD OF 'lintellaw09.NvramPlays'. -/
def nvramPlaysCard : Claim7 := { stood := { row := nvramPlaysRow, standIns := [], harness := (true, "070bf280a40fa8b0f63cb5eb5f3557e491aa034716a6c05bdce81c18d7524132"), looks := false }, kinds := [], alts := [], laidByText := true, laidKinds := [.data], laidTests := true, laidLooks := .later }
def NvramPlaysCardSaid : Prop := Claim7.holds Tryz.pinned (.plain (OpenSpec.ofChange nvramPlaysSpec)) nvramPlaysCard

/-- THE TIED CARD OF 'lintellaw21.KeepNext'. -/
def keepNextCard : Claim7 := { stood := { row := keepNextRow, standIns := [], harness := (true, "070bf280a40fa8b0f63cb5eb5f3557e491aa034716a6c05bdce81c18d7524132"), looks := false }, kinds := [], alts := [], laidByText := true, laidKinds := [.data], laidTests := true, laidLooks := .later }
def KeepNextCardSaid : Prop := Claim7.holds Tryz.pinned (.plain (OpenSpec.ofChange keepNextSpec)) keepNextCard

/-- THE TIED CARD OF 'lintellaw21.KeepApart'. -/
def keepApartCard : Claim7 := { stood := { row := keepApartRow, standIns := [], harness := (true, "070bf280a40fa8b0f63cb5eb5f3557e491aa034716a6c05bdce81c18d7524132"), looks := false }, kinds := [], alts := [], laidByText := true, laidKinds := [.data], laidTests := true, laidLooks := .later }
def KeepApartCardSaid : Prop := Claim7.holds Tryz.pinned (.plain (OpenSpec.ofChange keepApartSpec)) keepApartCard

/-- THE TIED CARD OF 'lintellaw21.KeepPlays'. -/
def keepPlaysCard : Claim7 := { stood := { row := keepPlaysRow, standIns := [], harness := (true, "070bf280a40fa8b0f63cb5eb5f3557e491aa034716a6c05bdce81c18d7524132"), looks := false }, kinds := [], alts := [], laidByText := true, laidKinds := [.data], laidTests := true, laidLooks := .later }
def KeepPlaysCardSaid : Prop := Claim7.holds Tryz.pinned (.plain (OpenSpec.ofChange keepPlaysSpec)) keepPlaysCard

/-- THE TIED CARD OF 'lintellaw21.KeepNil'. -/
def keepNilCard : Claim7 := { stood := { row := keepNilRow, standIns := [], harness := (true, "070bf280a40fa8b0f63cb5eb5f3557e491aa034716a6c05bdce81c18d7524132"), looks := false }, kinds := [], alts := [], laidByText := true, laidKinds := [.data], laidTests := true, laidLooks := .later }
def KeepNilCardSaid : Prop := Claim7.holds Tryz.pinned (.plain (OpenSpec.ofChange keepNilSpec)) keepNilCard

/-- THE TIED CARD OF 'lintellaw21.KeepLasts'. -/
def keepLastsCard : Claim7 := { stood := { row := keepLastsRow, standIns := [], harness := (true, "070bf280a40fa8b0f63cb5eb5f3557e491aa034716a6c05bdce81c18d7524132"), looks := false }, kinds := [], alts := [], laidByText := true, laidKinds := [.data], laidTests := true, laidLooks := .later }
def KeepLastsCardSaid : Prop := Claim7.holds Tryz.pinned (.plain (OpenSpec.ofChange keepLastsSpec)) keepLastsCard

/-- THE SECOND FORM's CARD OF 'lintellaw09.NvramStill'. -/
def nvramStillUptoCard : Claim7 := { stood := { row := nvramStillUptoRow, standIns := [], harness := (true, "070bf280a40fa8b0f63cb5eb5f3557e491aa034716a6c05bdce81c18d7524132"), looks := false }, kinds := [], alts := [], laidByText := true, laidKinds := [.data], laidTests := true, laidLooks := .later }
def NvramStillUptoCardSaid : Prop := Claim7.holds Tryz.pinned (.plain (OpenSpec.upto nvramStillSpec)) nvramStillUptoCard

/-- THE SECOND FORM's CARD OF 'lintellaw09.NvramMaps'. -/
def nvramMapsUptoCard : Claim7 := { stood := { row := nvramMapsUptoRow, standIns := [], harness := (true, "070bf280a40fa8b0f63cb5eb5f3557e491aa034716a6c05bdce81c18d7524132"), looks := false }, kinds := [], alts := [], laidByText := true, laidKinds := [.data], laidTests := true, laidLooks := .later }
def NvramMapsUptoCardSaid : Prop := Claim7.holds Tryz.pinned (.plain (OpenSpec.upto nvramMapsSpec)) nvramMapsUptoCard

/-- THE SECOND FORM's CARD OF 'lintellaw09.NvramLasts'. -/
def nvramLastsUptoCard : Claim7 := { stood := { row := nvramLastsUptoRow, standIns := [], harness := (true, "070bf280a40fa8b0f63cb5eb5f3557e491aa034716a6c05bdce81c18d7524132"), looks := false }, kinds := [], alts := [], laidByText := true, laidKinds := [.data], laidTests := true, laidLooks := .later }
def NvramLastsUptoCardSaid : Prop := Claim7.holds Tryz.pinned (.plain (OpenSpec.upto nvramLastsSpec)) nvramLastsUptoCard

/-- THE SECOND FORM's CARD OF 'lintellaw09.NvramPlays'. -/
def nvramPlaysUptoCard : Claim7 := { stood := { row := nvramPlaysUptoRow, standIns := [], harness := (true, "070bf280a40fa8b0f63cb5eb5f3557e491aa034716a6c05bdce81c18d7524132"), looks := false }, kinds := [], alts := [], laidByText := true, laidKinds := [.data], laidTests := true, laidLooks := .later }
def NvramPlaysUptoCardSaid : Prop := Claim7.holds Tryz.pinned (.plain (OpenSpec.upto nvramPlaysSpec)) nvramPlaysUptoCard

/-- THE SECOND FORM's CARD OF 'lintellaw21.KeepNext'. -/
def keepNextUptoCard : Claim7 := { stood := { row := keepNextUptoRow, standIns := [], harness := (true, "070bf280a40fa8b0f63cb5eb5f3557e491aa034716a6c05bdce81c18d7524132"), looks := false }, kinds := [], alts := [], laidByText := true, laidKinds := [.data], laidTests := true, laidLooks := .later }
def KeepNextUptoCardSaid : Prop := Claim7.holds Tryz.pinned (.plain (OpenSpec.upto keepNextSpec)) keepNextUptoCard

/-- THE SECOND FORM's CARD OF 'lintellaw21.KeepApart'. -/
def keepApartUptoCard : Claim7 := { stood := { row := keepApartUptoRow, standIns := [], harness := (true, "070bf280a40fa8b0f63cb5eb5f3557e491aa034716a6c05bdce81c18d7524132"), looks := false }, kinds := [], alts := [], laidByText := true, laidKinds := [.data], laidTests := true, laidLooks := .later }
def KeepApartUptoCardSaid : Prop := Claim7.holds Tryz.pinned (.plain (OpenSpec.upto keepApartSpec)) keepApartUptoCard

/-- THE SECOND FORM's CARD OF 'lintellaw21.KeepPlays'. -/
def keepPlaysUptoCard : Claim7 := { stood := { row := keepPlaysUptoRow, standIns := [], harness := (true, "070bf280a40fa8b0f63cb5eb5f3557e491aa034716a6c05bdce81c18d7524132"), looks := false }, kinds := [], alts := [], laidByText := true, laidKinds := [.data], laidTests := true, laidLooks := .later }
def KeepPlaysUptoCardSaid : Prop := Claim7.holds Tryz.pinned (.plain (OpenSpec.upto keepPlaysSpec)) keepPlaysUptoCard

/-- THE SECOND FORM's CARD OF 'lintellaw21.KeepNil'. -/
def keepNilUptoCard : Claim7 := { stood := { row := keepNilUptoRow, standIns := [], harness := (true, "070bf280a40fa8b0f63cb5eb5f3557e491aa034716a6c05bdce81c18d7524132"), looks := false }, kinds := [], alts := [], laidByText := true, laidKinds := [.data], laidTests := true, laidLooks := .later }
def KeepNilUptoCardSaid : Prop := Claim7.holds Tryz.pinned (.plain (OpenSpec.upto keepNilSpec)) keepNilUptoCard

/-- THE SECOND FORM's CARD OF 'lintellaw21.KeepLasts'. -/
def keepLastsUptoCard : Claim7 := { stood := { row := keepLastsUptoRow, standIns := [], harness := (true, "070bf280a40fa8b0f63cb5eb5f3557e491aa034716a6c05bdce81c18d7524132"), looks := false }, kinds := [], alts := [], laidByText := true, laidKinds := [.data], laidTests := true, laidLooks := .later }
def KeepLastsUptoCardSaid : Prop := Claim7.holds Tryz.pinned (.plain (OpenSpec.upto keepLastsSpec)) keepLastsUptoCard
end Rows
end Go.Proofs.YtpbpiehcchannaaGreatDoor
