/-
  NARROWER THAN 'FOR EVERY INPUT', by the rows' own cells (each row's printed sentence says how): NvramStill: laid · NvramMaps: laid · NvramLasts: laid · NvramPlays: laid · KeepNext: laid · KeepApart: laid · KeepPlays: laid · KeepNil: laid · KeepLasts: laid.
  DERIVED. THE GIVEN ROWS OF THIS SEAT. 9 by the template 'for every input the law returns true; each argument reads behind the call as it read before'; 0 by the template 'total and deterministic' (their statements: YtpbpiehcchannaaGreatDoorTotals.lean).
  GIVEN WITH THE SEED: the statements are not yours to turn. If you find one false, say at which input.
  Laid BY PROGRAM, IN A SANDBOX (cutbox-rows.mjs): the forced cells as the released guide's own fill.sh prints them over the translation 86f11c821efb50f9… (all of the seat's roots in one cut). By AI agents, Wed Nov 11 2026. No macro, syntax, notation, axiom, sorry.
-/
import Derived.Test.YtpbpiehcchannaaGreatDoorChecked
import GoSem.Claim
import GoSem.ClaimJoined
import GoSem.ClaimMapViews
import Derived.JoinedTies
import Derived.KernelRfl
namespace Go.Proofs.YtpbpiehcchannaaGreatDoor
/- THE CELL 'sum', in the pinned program and in every row, IS THE sha256 OF THE DUMP (.gsa) THAT YtpbpiehcchannaaGreatDoorProg.lean LOADS. Nothing in Lean hashes anything: it is a label: what it is worth is what the hold of that sum in a sandbox is worth. -/
noncomputable def Tryz.pinned : Pinned := { name := "ytpbpiehcchannaagreatdoor", sum := "86f11c821efb50f9541209ca298331338c842dda713e04bf1650683da28dc09a", checked := Tryz.checked }
namespace Rows
def none {H : Type} : Left H := { results := [], args := [] }

/- WHAT THE LISTED PACKAGE-LEVEL VARIABLES READ AS WHEN THE CALL BEGINS. Each datum BY PROGRAM (the guide's laid-datum.mjs) off the statement by which the dump's own 'gosem.cut.vars' lays the variable. In a bare row this is a premise. The card (YtpbpiehcchannaaGreatDoorCards.lean) ties it to the program's text. -/
def laid_lintel_crc_table {H : Type} : DataW H := .agg [.lit (.int .u32 0), .lit (.int .u32 498536548), .lit (.int .u32 997073096), .lit (.int .u32 651767980), .lit (.int .u32 1994146192), .lit (.int .u32 1802195444), .lit (.int .u32 1303535960), .lit (.int .u32 1342533948), .lit (.int .u32 3988292384), .lit (.int .u32 4027552580), .lit (.int .u32 3604390888), .lit (.int .u32 3412177804), .lit (.int .u32 2607071920), .lit (.int .u32 2262029012), .lit (.int .u32 2685067896), .lit (.int .u32 3183342108)]

/-- 'lintellaw09.NvramStill': WHATEVER THE INPUT: true; the input reads as it did. -/
def nvramStillSpec : ChangeSpec := { name := "nvramStill", fn := fun _ => fun
  | [d1, d2, d3, d4, d5] => { results := [.lit (.bool true)], args := [d1, d2, d3, d4, d5] }
  | _ => none }
def nvramStillRow : OpenClaim := { program := "ytpbpiehcchannaagreatdoor", sum := "86f11c821efb50f9541209ca298331338c842dda713e04bf1650683da28dc09a", func := "lintel/lintellaw09.NvramStill", spec := "nvramStill", inPlace := ["internal/bytealg.MakeNoZero", "internal/bytealg.Compare"], unfollowed := true, recurses := true, named := ["lintel/crc.table"], apart := false, laid := [("lintel/crc.table", laid_lintel_crc_table)] }
def NvramStillSaid : Prop := nvramStillRow.holds Tryz.pinned (OpenSpec.ofChange nvramStillSpec)

/-- ITS FALSE NEIGHBOUR: 'it returns false'. Refute it at one input. -/
def nvramStillWrong : ChangeSpec := { name := "nvramStill", fn := fun _ => fun
  | [d1, d2, d3, d4, d5] => { results := [.lit (.bool false)], args := [d1, d2, d3, d4, d5] }
  | _ => none }
def NvramStillWrongFalsely : Prop := nvramStillRow.holds Tryz.pinned (OpenSpec.ofChange nvramStillWrong)

/-- 'lintellaw09.NvramMaps': WHATEVER THE INPUT: true; the input reads as it did. -/
def nvramMapsSpec : ChangeSpec := { name := "nvramMaps", fn := fun _ => fun
  | [d1, d2, d3] => { results := [.lit (.bool true)], args := [d1, d2, d3] }
  | _ => none }
def nvramMapsRow : OpenClaim := { program := "ytpbpiehcchannaagreatdoor", sum := "86f11c821efb50f9541209ca298331338c842dda713e04bf1650683da28dc09a", func := "lintel/lintellaw09.NvramMaps", spec := "nvramMaps", inPlace := ["internal/bytealg.MakeNoZero", "internal/bytealg.Compare"], unfollowed := true, recurses := true, named := ["lintel/crc.table"], apart := false, laid := [("lintel/crc.table", laid_lintel_crc_table)] }
def NvramMapsSaid : Prop := nvramMapsRow.holds Tryz.pinned (OpenSpec.ofChange nvramMapsSpec)

/-- ITS FALSE NEIGHBOUR: 'it returns false'. Refute it at one input. -/
def nvramMapsWrong : ChangeSpec := { name := "nvramMaps", fn := fun _ => fun
  | [d1, d2, d3] => { results := [.lit (.bool false)], args := [d1, d2, d3] }
  | _ => none }
def NvramMapsWrongFalsely : Prop := nvramMapsRow.holds Tryz.pinned (OpenSpec.ofChange nvramMapsWrong)

/-- 'lintellaw09.NvramLasts': WHATEVER THE INPUT: true; the input reads as it did. -/
def nvramLastsSpec : ChangeSpec := { name := "nvramLasts", fn := fun _ => fun
  | [d1, d2, d3, d4] => { results := [.lit (.bool true)], args := [d1, d2, d3, d4] }
  | _ => none }
def nvramLastsRow : OpenClaim := { program := "ytpbpiehcchannaagreatdoor", sum := "86f11c821efb50f9541209ca298331338c842dda713e04bf1650683da28dc09a", func := "lintel/lintellaw09.NvramLasts", spec := "nvramLasts", inPlace := ["internal/bytealg.MakeNoZero", "internal/bytealg.Compare"], unfollowed := true, recurses := true, named := ["lintel/crc.table"], apart := false, laid := [("lintel/crc.table", laid_lintel_crc_table)] }
def NvramLastsSaid : Prop := nvramLastsRow.holds Tryz.pinned (OpenSpec.ofChange nvramLastsSpec)

/-- ITS FALSE NEIGHBOUR: 'it returns false'. Refute it at one input. -/
def nvramLastsWrong : ChangeSpec := { name := "nvramLasts", fn := fun _ => fun
  | [d1, d2, d3, d4] => { results := [.lit (.bool false)], args := [d1, d2, d3, d4] }
  | _ => none }
def NvramLastsWrongFalsely : Prop := nvramLastsRow.holds Tryz.pinned (OpenSpec.ofChange nvramLastsWrong)

/-- 'lintellaw09.NvramPlays': WHATEVER THE INPUT: true; the input reads as it did. -/
def nvramPlaysSpec : ChangeSpec := { name := "nvramPlays", fn := fun _ => fun
  | [d1, d2, d3] => { results := [.lit (.bool true)], args := [d1, d2, d3] }
  | _ => none }
def nvramPlaysRow : OpenClaim := { program := "ytpbpiehcchannaagreatdoor", sum := "86f11c821efb50f9541209ca298331338c842dda713e04bf1650683da28dc09a", func := "lintel/lintellaw09.NvramPlays", spec := "nvramPlays", inPlace := ["internal/bytealg.MakeNoZero", "internal/bytealg.Compare"], unfollowed := true, recurses := true, named := ["lintel/crc.table"], apart := false, laid := [("lintel/crc.table", laid_lintel_crc_table)] }
def NvramPlaysSaid : Prop := nvramPlaysRow.holds Tryz.pinned (OpenSpec.ofChange nvramPlaysSpec)

/-- ITS FALSE NEIGHBOUR: 'it returns false'. Refute it at one input. -/
def nvramPlaysWrong : ChangeSpec := { name := "nvramPlays", fn := fun _ => fun
  | [d1, d2, d3] => { results := [.lit (.bool false)], args := [d1, d2, d3] }
  | _ => none }
def NvramPlaysWrongFalsely : Prop := nvramPlaysRow.holds Tryz.pinned (OpenSpec.ofChange nvramPlaysWrong)

/-- 'lintellaw21.KeepNext': WHATEVER THE INPUT: true; the input reads as it did. -/
def keepNextSpec : ChangeSpec := { name := "keepNext", fn := fun _ => fun
  | [d1, d2, d3] => { results := [.lit (.bool true)], args := [d1, d2, d3] }
  | _ => none }
def keepNextRow : OpenClaim := { program := "ytpbpiehcchannaagreatdoor", sum := "86f11c821efb50f9541209ca298331338c842dda713e04bf1650683da28dc09a", func := "lintel/lintellaw21.KeepNext", spec := "keepNext", inPlace := ["internal/bytealg.MakeNoZero", "internal/bytealg.Compare"], unfollowed := true, recurses := true, named := ["lintel/crc.table"], apart := false, laid := [("lintel/crc.table", laid_lintel_crc_table)] }
def KeepNextSaid : Prop := keepNextRow.holds Tryz.pinned (OpenSpec.ofChange keepNextSpec)

/-- ITS FALSE NEIGHBOUR: 'it returns false'. Refute it at one input. -/
def keepNextWrong : ChangeSpec := { name := "keepNext", fn := fun _ => fun
  | [d1, d2, d3] => { results := [.lit (.bool false)], args := [d1, d2, d3] }
  | _ => none }
def KeepNextWrongFalsely : Prop := keepNextRow.holds Tryz.pinned (OpenSpec.ofChange keepNextWrong)

/-- 'lintellaw21.KeepApart': WHATEVER THE INPUT: true; the input reads as it did. -/
def keepApartSpec : ChangeSpec := { name := "keepApart", fn := fun _ => fun
  | [d1, d2, d3] => { results := [.lit (.bool true)], args := [d1, d2, d3] }
  | _ => none }
def keepApartRow : OpenClaim := { program := "ytpbpiehcchannaagreatdoor", sum := "86f11c821efb50f9541209ca298331338c842dda713e04bf1650683da28dc09a", func := "lintel/lintellaw21.KeepApart", spec := "keepApart", inPlace := ["internal/bytealg.MakeNoZero", "internal/bytealg.Compare"], unfollowed := true, recurses := true, named := ["lintel/crc.table"], apart := false, laid := [("lintel/crc.table", laid_lintel_crc_table)] }
def KeepApartSaid : Prop := keepApartRow.holds Tryz.pinned (OpenSpec.ofChange keepApartSpec)

/-- ITS FALSE NEIGHBOUR: 'it returns false'. Refute it at one input. -/
def keepApartWrong : ChangeSpec := { name := "keepApart", fn := fun _ => fun
  | [d1, d2, d3] => { results := [.lit (.bool false)], args := [d1, d2, d3] }
  | _ => none }
def KeepApartWrongFalsely : Prop := keepApartRow.holds Tryz.pinned (OpenSpec.ofChange keepApartWrong)

/-- 'lintellaw21.KeepPlays': WHATEVER THE INPUT: true; the input reads as it did. -/
def keepPlaysSpec : ChangeSpec := { name := "keepPlays", fn := fun _ => fun
  | [d1, d2] => { results := [.lit (.bool true)], args := [d1, d2] }
  | _ => none }
def keepPlaysRow : OpenClaim := { program := "ytpbpiehcchannaagreatdoor", sum := "86f11c821efb50f9541209ca298331338c842dda713e04bf1650683da28dc09a", func := "lintel/lintellaw21.KeepPlays", spec := "keepPlays", inPlace := ["internal/bytealg.MakeNoZero", "internal/bytealg.Compare"], unfollowed := true, recurses := true, named := ["lintel/crc.table"], apart := false, laid := [("lintel/crc.table", laid_lintel_crc_table)] }
def KeepPlaysSaid : Prop := keepPlaysRow.holds Tryz.pinned (OpenSpec.ofChange keepPlaysSpec)

/-- ITS FALSE NEIGHBOUR: 'it returns false'. Refute it at one input. -/
def keepPlaysWrong : ChangeSpec := { name := "keepPlays", fn := fun _ => fun
  | [d1, d2] => { results := [.lit (.bool false)], args := [d1, d2] }
  | _ => none }
def KeepPlaysWrongFalsely : Prop := keepPlaysRow.holds Tryz.pinned (OpenSpec.ofChange keepPlaysWrong)

/-- 'lintellaw21.KeepNil': WHATEVER THE INPUT: true; the input reads as it did. -/
def keepNilSpec : ChangeSpec := { name := "keepNil", fn := fun _ => fun
  | [d1, d2] => { results := [.lit (.bool true)], args := [d1, d2] }
  | _ => none }
def keepNilRow : OpenClaim := { program := "ytpbpiehcchannaagreatdoor", sum := "86f11c821efb50f9541209ca298331338c842dda713e04bf1650683da28dc09a", func := "lintel/lintellaw21.KeepNil", spec := "keepNil", inPlace := ["internal/bytealg.MakeNoZero", "internal/bytealg.Compare"], unfollowed := true, recurses := true, named := ["lintel/crc.table"], apart := false, laid := [("lintel/crc.table", laid_lintel_crc_table)] }
def KeepNilSaid : Prop := keepNilRow.holds Tryz.pinned (OpenSpec.ofChange keepNilSpec)

/-- ITS FALSE NEIGHBOUR: 'it returns false'. Refute it at one input. -/
def keepNilWrong : ChangeSpec := { name := "keepNil", fn := fun _ => fun
  | [d1, d2] => { results := [.lit (.bool false)], args := [d1, d2] }
  | _ => none }
def KeepNilWrongFalsely : Prop := keepNilRow.holds Tryz.pinned (OpenSpec.ofChange keepNilWrong)

/-- 'lintellaw21.KeepLasts': WHATEVER THE INPUT: true; the input reads as it did. -/
def keepLastsSpec : ChangeSpec := { name := "keepLasts", fn := fun _ => fun
  | [d1, d2, d3] => { results := [.lit (.bool true)], args := [d1, d2, d3] }
  | _ => none }
def keepLastsRow : OpenClaim := { program := "ytpbpiehcchannaagreatdoor", sum := "86f11c821efb50f9541209ca298331338c842dda713e04bf1650683da28dc09a", func := "lintel/lintellaw21.KeepLasts", spec := "keepLasts", inPlace := ["internal/bytealg.MakeNoZero", "internal/bytealg.Compare"], unfollowed := true, recurses := true, named := ["lintel/crc.table"], apart := false, laid := [("lintel/crc.table", laid_lintel_crc_table)] }
def KeepLastsSaid : Prop := keepLastsRow.holds Tryz.pinned (OpenSpec.ofChange keepLastsSpec)

/-- ITS FALSE NEIGHBOUR: 'it returns false'. Refute it at one input. -/
def keepLastsWrong : ChangeSpec := { name := "keepLasts", fn := fun _ => fun
  | [d1, d2, d3] => { results := [.lit (.bool false)], args := [d1, d2, d3] }
  | _ => none }
def KeepLastsWrongFalsely : Prop := keepLastsRow.holds Tryz.pinned (OpenSpec.ofChange keepLastsWrong)

/- THE SECOND FORM. 'bulk': how many values and letters a reading holds, each counted each time it is reached (what is shared counts as often as it is met; a slice's spare places count too). A statement '..UptoSaid' is the law's where the arguments, and the package variables that the reading takes, are together of bulk at most 1048576: NARROWER than '..Said'. Prove '..Said' where nothing that the law and all that it calls make is longer than what came in: it says more and counts as full. Else prove '..UptoSaid'. A law counts once. -/
mutual
def uptoBulk {H : Type} : DataW H → Nat
  | .lit (.string bytes) => bytes.length + 1
  | .lit _ => 1
  | .nil => 1
  | .ptr d => uptoBulk d + 1
  | .slice elems spare => uptoBulkAll elems + uptoBulkAll spare + 1
  | .agg parts => uptoBulkAll parts + 1
  | .iface _ d => uptoBulk d + 1
  | .map entries => uptoBulkEntries entries + 1
  | .held _ => 1
def uptoBulkAll {H : Type} : List (DataW H) → Nat
  | [] => 0
  | d :: r => uptoBulk d + uptoBulkAll r
def uptoBulkEntries {H : Type} : List (Lit × DataW H) → Nat
  | [] => 0
  | x :: r => uptoBulkEntry x + uptoBulkEntries r
def uptoBulkEntry {H : Type} : Lit × DataW H → Nat
  | (.string bytes, d) => bytes.length + uptoBulk d + 1
  | (_, d) => uptoBulk d + 1
 end
def uptoSmall : (H : Type) → List (DataW H) → Bool := fun _ ds => decide (uptoBulkAll ds ≤ 1048576)
def OpenSpec.upto (s : _root_.Go.ChangeSpec) : _root_.Go.OpenSpec := { _root_.Go.OpenSpec.ofChange s with cond := some uptoSmall }

/-- 'lintellaw09.NvramStill', WHERE WHAT IT READS IS OF BULK AT MOST 1048576: true; the input reads as it did. -/
def nvramStillUptoRow : OpenClaim := { program := "ytpbpiehcchannaagreatdoor", sum := "86f11c821efb50f9541209ca298331338c842dda713e04bf1650683da28dc09a", func := "lintel/lintellaw09.NvramStill", spec := "nvramStill", inPlace := ["internal/bytealg.MakeNoZero", "internal/bytealg.Compare"], unfollowed := true, recurses := true, named := ["lintel/crc.table"], apart := false, laid := [("lintel/crc.table", laid_lintel_crc_table)], narrowed := true }
def NvramStillUptoSaid : Prop := nvramStillUptoRow.holds Tryz.pinned (OpenSpec.upto nvramStillSpec)

/-- 'lintellaw09.NvramMaps', WHERE WHAT IT READS IS OF BULK AT MOST 1048576: true; the input reads as it did. -/
def nvramMapsUptoRow : OpenClaim := { program := "ytpbpiehcchannaagreatdoor", sum := "86f11c821efb50f9541209ca298331338c842dda713e04bf1650683da28dc09a", func := "lintel/lintellaw09.NvramMaps", spec := "nvramMaps", inPlace := ["internal/bytealg.MakeNoZero", "internal/bytealg.Compare"], unfollowed := true, recurses := true, named := ["lintel/crc.table"], apart := false, laid := [("lintel/crc.table", laid_lintel_crc_table)], narrowed := true }
def NvramMapsUptoSaid : Prop := nvramMapsUptoRow.holds Tryz.pinned (OpenSpec.upto nvramMapsSpec)

/-- 'lintellaw09.NvramLasts', WHERE WHAT IT READS IS OF BULK AT MOST 1048576: true; the input reads as it did. -/
def nvramLastsUptoRow : OpenClaim := { program := "ytpbpiehcchannaagreatdoor", sum := "86f11c821efb50f9541209ca298331338c842dda713e04bf1650683da28dc09a", func := "lintel/lintellaw09.NvramLasts", spec := "nvramLasts", inPlace := ["internal/bytealg.MakeNoZero", "internal/bytealg.Compare"], unfollowed := true, recurses := true, named := ["lintel/crc.table"], apart := false, laid := [("lintel/crc.table", laid_lintel_crc_table)], narrowed := true }
def NvramLastsUptoSaid : Prop := nvramLastsUptoRow.holds Tryz.pinned (OpenSpec.upto nvramLastsSpec)

/-- 'lintellaw09.NvramPlays', WHERE WHAT IT READS IS OF BULK AT MOST 1048576: true; the input reads as it did. -/
def nvramPlaysUptoRow : OpenClaim := { program := "ytpbpiehcchannaagreatdoor", sum := "86f11c821efb50f9541209ca298331338c842dda713e04bf1650683da28dc09a", func := "lintel/lintellaw09.NvramPlays", spec := "nvramPlays", inPlace := ["internal/bytealg.MakeNoZero", "internal/bytealg.Compare"], unfollowed := true, recurses := true, named := ["lintel/crc.table"], apart := false, laid := [("lintel/crc.table", laid_lintel_crc_table)], narrowed := true }
def NvramPlaysUptoSaid : Prop := nvramPlaysUptoRow.holds Tryz.pinned (OpenSpec.upto nvramPlaysSpec)

/-- 'lintellaw21.KeepNext', WHERE WHAT IT READS IS OF BULK AT MOST 1048576: true; the input reads as it did. -/
def keepNextUptoRow : OpenClaim := { program := "ytpbpiehcchannaagreatdoor", sum := "86f11c821efb50f9541209ca298331338c842dda713e04bf1650683da28dc09a", func := "lintel/lintellaw21.KeepNext", spec := "keepNext", inPlace := ["internal/bytealg.MakeNoZero", "internal/bytealg.Compare"], unfollowed := true, recurses := true, named := ["lintel/crc.table"], apart := false, laid := [("lintel/crc.table", laid_lintel_crc_table)], narrowed := true }
def KeepNextUptoSaid : Prop := keepNextUptoRow.holds Tryz.pinned (OpenSpec.upto keepNextSpec)

/-- 'lintellaw21.KeepApart', WHERE WHAT IT READS IS OF BULK AT MOST 1048576: true; the input reads as it did. -/
def keepApartUptoRow : OpenClaim := { program := "ytpbpiehcchannaagreatdoor", sum := "86f11c821efb50f9541209ca298331338c842dda713e04bf1650683da28dc09a", func := "lintel/lintellaw21.KeepApart", spec := "keepApart", inPlace := ["internal/bytealg.MakeNoZero", "internal/bytealg.Compare"], unfollowed := true, recurses := true, named := ["lintel/crc.table"], apart := false, laid := [("lintel/crc.table", laid_lintel_crc_table)], narrowed := true }
def KeepApartUptoSaid : Prop := keepApartUptoRow.holds Tryz.pinned (OpenSpec.upto keepApartSpec)

/-- 'lintellaw21.KeepPlays', WHERE WHAT IT READS IS OF BULK AT MOST 1048576: true; the input reads as it did. -/
def keepPlaysUptoRow : OpenClaim := { program := "ytpbpiehcchannaagreatdoor", sum := "86f11c821efb50f9541209ca298331338c842dda713e04bf1650683da28dc09a", func := "lintel/lintellaw21.KeepPlays", spec := "keepPlays", inPlace := ["internal/bytealg.MakeNoZero", "internal/bytealg.Compare"], unfollowed := true, recurses := true, named := ["lintel/crc.table"], apart := false, laid := [("lintel/crc.table", laid_lintel_crc_table)], narrowed := true }
def KeepPlaysUptoSaid : Prop := keepPlaysUptoRow.holds Tryz.pinned (OpenSpec.upto keepPlaysSpec)

/-- 'lintellaw21.KeepNil', WHERE WHAT IT READS IS OF BULK AT MOST 1048576: true; the input reads as it did. -/
def keepNilUptoRow : OpenClaim := { program := "ytpbpiehcchannaagreatdoor", sum := "86f11c821efb50f9541209ca298331338c842dda713e04bf1650683da28dc09a", func := "lintel/lintellaw21.KeepNil", spec := "keepNil", inPlace := ["internal/bytealg.MakeNoZero", "internal/bytealg.Compare"], unfollowed := true, recurses := true, named := ["lintel/crc.table"], apart := false, laid := [("lintel/crc.table", laid_lintel_crc_table)], narrowed := true }
def KeepNilUptoSaid : Prop := keepNilUptoRow.holds Tryz.pinned (OpenSpec.upto keepNilSpec)

/-- 'lintellaw21.KeepLasts', WHERE WHAT IT READS IS OF BULK AT MOST 1048576: true; the input reads as it did. -/
def keepLastsUptoRow : OpenClaim := { program := "ytpbpiehcchannaagreatdoor", sum := "86f11c821efb50f9541209ca298331338c842dda713e04bf1650683da28dc09a", func := "lintel/lintellaw21.KeepLasts", spec := "keepLasts", inPlace := ["internal/bytealg.MakeNoZero", "internal/bytealg.Compare"], unfollowed := true, recurses := true, named := ["lintel/crc.table"], apart := false, laid := [("lintel/crc.table", laid_lintel_crc_table)], narrowed := true }
def KeepLastsUptoSaid : Prop := keepLastsUptoRow.holds Tryz.pinned (OpenSpec.upto keepLastsSpec)

end Rows
end Go.Proofs.YtpbpiehcchannaaGreatDoor
