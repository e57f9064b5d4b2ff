/-
  NARROWER THAN 'FOR EVERY INPUT', by the rows' own cells (each row's printed sentence says how): BankHolds: laid · BankFalls: laid · BankKills: laid · BankNil: laid · BankApart: laid · BankHeads: laid.
  DERIVED. THE GIVEN ROWS OF THIS SEAT. 6 by the template 'for every input the law returns true; each argument reads behind the call as it read before'; 0 by the template 'total and deterministic' (their statements: YtddocchgikaahaaDoorTotals.lean).
  GIVEN WITH THE SEED: the statements are not yours to turn. If you find one false, say at which input.
  Laid BY PROGRAM, IN A SANDBOX (cutbox-rows.mjs): the forced cells as the released guide's own fill.sh prints them over the translation 90f40eb7cb0959d2… (all of the seat's roots in one cut). By AI agents, Wed Nov 11 2026. No macro, syntax, notation, axiom, sorry.
-/
import Derived.Test.YtddocchgikaahaaDoorChecked
import GoSem.Claim
import GoSem.ClaimJoined
import GoSem.ClaimMapViews
import Derived.JoinedTies
import Derived.KernelRfl
namespace Go.Proofs.YtddocchgikaahaaDoor
/- THE CELL 'sum', in the pinned program and in every row, IS THE sha256 OF THE DUMP (.gsa) THAT YtddocchgikaahaaDoorProg.lean LOADS. Nothing in Lean hashes anything: it is a label: what it is worth is what the hold of that sum in a sandbox is worth. -/
noncomputable def Tryd.pinned : Pinned := { name := "ytddocchgikaahaadoor", sum := "90f40eb7cb0959d2df9bb3b697c1462f0d593c23b0b8eb8ca4063b2224297a71", checked := Tryd.checked }
namespace Rows
def none {H : Type} : Left H := { results := [], args := [] }

/- WHAT THE LISTED PACKAGE-LEVEL VARIABLES READ AS WHEN THE CALL BEGINS. Each datum BY PROGRAM (the guide's laid-datum.mjs) off the statement by which the dump's own 'gosem.cut.vars' lays the variable. In a bare row this is a premise. The card (YtddocchgikaahaaDoorCards.lean) ties it to the program's text. -/
def laid_lintel_crc_table {H : Type} : DataW H := .agg [.lit (.int .u32 0), .lit (.int .u32 498536548), .lit (.int .u32 997073096), .lit (.int .u32 651767980), .lit (.int .u32 1994146192), .lit (.int .u32 1802195444), .lit (.int .u32 1303535960), .lit (.int .u32 1342533948), .lit (.int .u32 3988292384), .lit (.int .u32 4027552580), .lit (.int .u32 3604390888), .lit (.int .u32 3412177804), .lit (.int .u32 2607071920), .lit (.int .u32 2262029012), .lit (.int .u32 2685067896), .lit (.int .u32 3183342108)]

/-- 'lintellaw08.BankHolds': WHATEVER THE INPUT: true; the input reads as it did. -/
def bankHoldsSpec : ChangeSpec := { name := "bankHolds", fn := fun _ => fun
  | [d1, d2] => { results := [.lit (.bool true)], args := [d1, d2] }
  | _ => none }
def bankHoldsRow : OpenClaim := { program := "ytddocchgikaahaadoor", sum := "90f40eb7cb0959d2df9bb3b697c1462f0d593c23b0b8eb8ca4063b2224297a71", func := "lintel/lintellaw08.BankHolds", spec := "bankHolds", inPlace := ["internal/bytealg.MakeNoZero"], unfollowed := true, recurses := true, named := ["lintel/crc.table"], apart := false, laid := [("lintel/crc.table", laid_lintel_crc_table)] }
def BankHoldsSaid : Prop := bankHoldsRow.holds Tryd.pinned (OpenSpec.ofChange bankHoldsSpec)

/-- ITS FALSE NEIGHBOUR: 'it returns false'. Refute it at one input. -/
def bankHoldsWrong : ChangeSpec := { name := "bankHolds", fn := fun _ => fun
  | [d1, d2] => { results := [.lit (.bool false)], args := [d1, d2] }
  | _ => none }
def BankHoldsWrongFalsely : Prop := bankHoldsRow.holds Tryd.pinned (OpenSpec.ofChange bankHoldsWrong)

/-- 'lintellaw08.BankFalls': WHATEVER THE INPUT: true; the input reads as it did. -/
def bankFallsSpec : ChangeSpec := { name := "bankFalls", fn := fun _ => fun
  | [d1, d2, d3, d4] => { results := [.lit (.bool true)], args := [d1, d2, d3, d4] }
  | _ => none }
def bankFallsRow : OpenClaim := { program := "ytddocchgikaahaadoor", sum := "90f40eb7cb0959d2df9bb3b697c1462f0d593c23b0b8eb8ca4063b2224297a71", func := "lintel/lintellaw08.BankFalls", spec := "bankFalls", inPlace := ["internal/bytealg.MakeNoZero"], unfollowed := true, recurses := true, named := ["lintel/crc.table"], apart := false, laid := [("lintel/crc.table", laid_lintel_crc_table)] }
def BankFallsSaid : Prop := bankFallsRow.holds Tryd.pinned (OpenSpec.ofChange bankFallsSpec)

/-- ITS FALSE NEIGHBOUR: 'it returns false'. Refute it at one input. -/
def bankFallsWrong : ChangeSpec := { name := "bankFalls", fn := fun _ => fun
  | [d1, d2, d3, d4] => { results := [.lit (.bool false)], args := [d1, d2, d3, d4] }
  | _ => none }
def BankFallsWrongFalsely : Prop := bankFallsRow.holds Tryd.pinned (OpenSpec.ofChange bankFallsWrong)

/-- 'lintellaw08.BankKills': WHATEVER THE INPUT: true; the input reads as it did. -/
def bankKillsSpec : ChangeSpec := { name := "bankKills", fn := fun _ => fun
  | [d1, d2, d3] => { results := [.lit (.bool true)], args := [d1, d2, d3] }
  | _ => none }
def bankKillsRow : OpenClaim := { program := "ytddocchgikaahaadoor", sum := "90f40eb7cb0959d2df9bb3b697c1462f0d593c23b0b8eb8ca4063b2224297a71", func := "lintel/lintellaw08.BankKills", spec := "bankKills", inPlace := ["internal/bytealg.MakeNoZero"], unfollowed := true, recurses := true, named := ["lintel/crc.table"], apart := false, laid := [("lintel/crc.table", laid_lintel_crc_table)] }
def BankKillsSaid : Prop := bankKillsRow.holds Tryd.pinned (OpenSpec.ofChange bankKillsSpec)

/-- ITS FALSE NEIGHBOUR: 'it returns false'. Refute it at one input. -/
def bankKillsWrong : ChangeSpec := { name := "bankKills", fn := fun _ => fun
  | [d1, d2, d3] => { results := [.lit (.bool false)], args := [d1, d2, d3] }
  | _ => none }
def BankKillsWrongFalsely : Prop := bankKillsRow.holds Tryd.pinned (OpenSpec.ofChange bankKillsWrong)

/-- 'lintellaw08.BankNil': WHATEVER THE INPUT: true; the input reads as it did. -/
def bankNilSpec : ChangeSpec := { name := "bankNil", fn := fun _ => fun
  | [d1, d2, d3] => { results := [.lit (.bool true)], args := [d1, d2, d3] }
  | _ => none }
def bankNilRow : OpenClaim := { program := "ytddocchgikaahaadoor", sum := "90f40eb7cb0959d2df9bb3b697c1462f0d593c23b0b8eb8ca4063b2224297a71", func := "lintel/lintellaw08.BankNil", spec := "bankNil", inPlace := ["internal/bytealg.MakeNoZero"], unfollowed := true, recurses := true, named := ["lintel/crc.table"], apart := false, laid := [("lintel/crc.table", laid_lintel_crc_table)] }
def BankNilSaid : Prop := bankNilRow.holds Tryd.pinned (OpenSpec.ofChange bankNilSpec)

/-- ITS FALSE NEIGHBOUR: 'it returns false'. Refute it at one input. -/
def bankNilWrong : ChangeSpec := { name := "bankNil", fn := fun _ => fun
  | [d1, d2, d3] => { results := [.lit (.bool false)], args := [d1, d2, d3] }
  | _ => none }
def BankNilWrongFalsely : Prop := bankNilRow.holds Tryd.pinned (OpenSpec.ofChange bankNilWrong)

/-- 'lintellaw08.BankApart': WHATEVER THE INPUT: true; the input reads as it did. -/
def bankApartSpec : ChangeSpec := { name := "bankApart", fn := fun _ => fun
  | [d1, d2] => { results := [.lit (.bool true)], args := [d1, d2] }
  | _ => none }
def bankApartRow : OpenClaim := { program := "ytddocchgikaahaadoor", sum := "90f40eb7cb0959d2df9bb3b697c1462f0d593c23b0b8eb8ca4063b2224297a71", func := "lintel/lintellaw08.BankApart", spec := "bankApart", inPlace := ["internal/bytealg.MakeNoZero"], unfollowed := true, recurses := true, named := ["lintel/crc.table"], apart := false, laid := [("lintel/crc.table", laid_lintel_crc_table)] }
def BankApartSaid : Prop := bankApartRow.holds Tryd.pinned (OpenSpec.ofChange bankApartSpec)

/-- ITS FALSE NEIGHBOUR: 'it returns false'. Refute it at one input. -/
def bankApartWrong : ChangeSpec := { name := "bankApart", fn := fun _ => fun
  | [d1, d2] => { results := [.lit (.bool false)], args := [d1, d2] }
  | _ => none }
def BankApartWrongFalsely : Prop := bankApartRow.holds Tryd.pinned (OpenSpec.ofChange bankApartWrong)

/-- 'lintellaw08.BankHeads': WHATEVER THE INPUT: true; the input reads as it did. -/
def bankHeadsSpec : ChangeSpec := { name := "bankHeads", fn := fun _ => fun
  | [d1, d2, d3, d4] => { results := [.lit (.bool true)], args := [d1, d2, d3, d4] }
  | _ => none }
def bankHeadsRow : OpenClaim := { program := "ytddocchgikaahaadoor", sum := "90f40eb7cb0959d2df9bb3b697c1462f0d593c23b0b8eb8ca4063b2224297a71", func := "lintel/lintellaw08.BankHeads", spec := "bankHeads", inPlace := ["internal/bytealg.MakeNoZero"], unfollowed := true, recurses := true, named := ["lintel/crc.table"], apart := false, laid := [("lintel/crc.table", laid_lintel_crc_table)] }
def BankHeadsSaid : Prop := bankHeadsRow.holds Tryd.pinned (OpenSpec.ofChange bankHeadsSpec)

/-- ITS FALSE NEIGHBOUR: 'it returns false'. Refute it at one input. -/
def bankHeadsWrong : ChangeSpec := { name := "bankHeads", fn := fun _ => fun
  | [d1, d2, d3, d4] => { results := [.lit (.bool false)], args := [d1, d2, d3, d4] }
  | _ => none }
def BankHeadsWrongFalsely : Prop := bankHeadsRow.holds Tryd.pinned (OpenSpec.ofChange bankHeadsWrong)

/- THE SECOND FORM. 'bulk': how many values and letters a reading holds, each counted each time it is reached (what is shared counts as often as it is met; a slice's spare places count too). A statement '..UptoSaid' is the law's where the arguments, and the package variables that the reading takes, are together of bulk at most 1048576: NARROWER than '..Said'. Prove '..Said' where nothing that the law and all that it calls make is longer than what came in: it says more and counts as full. Else prove '..UptoSaid'. A law counts once. -/
mutual
def uptoBulk {H : Type} : DataW H → Nat
  | .lit (.string bytes) => bytes.length + 1
  | .lit _ => 1
  | .nil => 1
  | .ptr d => uptoBulk d + 1
  | .slice elems spare => uptoBulkAll elems + uptoBulkAll spare + 1
  | .agg parts => uptoBulkAll parts + 1
  | .iface _ d => uptoBulk d + 1
  | .map entries => uptoBulkEntries entries + 1
  | .held _ => 1
def uptoBulkAll {H : Type} : List (DataW H) → Nat
  | [] => 0
  | d :: r => uptoBulk d + uptoBulkAll r
def uptoBulkEntries {H : Type} : List (Lit × DataW H) → Nat
  | [] => 0
  | x :: r => uptoBulkEntry x + uptoBulkEntries r
def uptoBulkEntry {H : Type} : Lit × DataW H → Nat
  | (.string bytes, d) => bytes.length + uptoBulk d + 1
  | (_, d) => uptoBulk d + 1
 end
def uptoSmall : (H : Type) → List (DataW H) → Bool := fun _ ds => decide (uptoBulkAll ds ≤ 1048576)
def OpenSpec.upto (s : _root_.Go.ChangeSpec) : _root_.Go.OpenSpec := { _root_.Go.OpenSpec.ofChange s with cond := some uptoSmall }

/-- 'lintellaw08.BankHolds', WHERE WHAT IT READS IS OF BULK AT MOST 1048576: true; the input reads as it did. -/
def bankHoldsUptoRow : OpenClaim := { program := "ytddocchgikaahaadoor", sum := "90f40eb7cb0959d2df9bb3b697c1462f0d593c23b0b8eb8ca4063b2224297a71", func := "lintel/lintellaw08.BankHolds", spec := "bankHolds", inPlace := ["internal/bytealg.MakeNoZero"], unfollowed := true, recurses := true, named := ["lintel/crc.table"], apart := false, laid := [("lintel/crc.table", laid_lintel_crc_table)], narrowed := true }
def BankHoldsUptoSaid : Prop := bankHoldsUptoRow.holds Tryd.pinned (OpenSpec.upto bankHoldsSpec)

/-- 'lintellaw08.BankFalls', WHERE WHAT IT READS IS OF BULK AT MOST 1048576: true; the input reads as it did. -/
def bankFallsUptoRow : OpenClaim := { program := "ytddocchgikaahaadoor", sum := "90f40eb7cb0959d2df9bb3b697c1462f0d593c23b0b8eb8ca4063b2224297a71", func := "lintel/lintellaw08.BankFalls", spec := "bankFalls", inPlace := ["internal/bytealg.MakeNoZero"], unfollowed := true, recurses := true, named := ["lintel/crc.table"], apart := false, laid := [("lintel/crc.table", laid_lintel_crc_table)], narrowed := true }
def BankFallsUptoSaid : Prop := bankFallsUptoRow.holds Tryd.pinned (OpenSpec.upto bankFallsSpec)

/-- 'lintellaw08.BankKills', WHERE WHAT IT READS IS OF BULK AT MOST 1048576: true; the input reads as it did. -/
def bankKillsUptoRow : OpenClaim := { program := "ytddocchgikaahaadoor", sum := "90f40eb7cb0959d2df9bb3b697c1462f0d593c23b0b8eb8ca4063b2224297a71", func := "lintel/lintellaw08.BankKills", spec := "bankKills", inPlace := ["internal/bytealg.MakeNoZero"], unfollowed := true, recurses := true, named := ["lintel/crc.table"], apart := false, laid := [("lintel/crc.table", laid_lintel_crc_table)], narrowed := true }
def BankKillsUptoSaid : Prop := bankKillsUptoRow.holds Tryd.pinned (OpenSpec.upto bankKillsSpec)

/-- 'lintellaw08.BankNil', WHERE WHAT IT READS IS OF BULK AT MOST 1048576: true; the input reads as it did. -/
def bankNilUptoRow : OpenClaim := { program := "ytddocchgikaahaadoor", sum := "90f40eb7cb0959d2df9bb3b697c1462f0d593c23b0b8eb8ca4063b2224297a71", func := "lintel/lintellaw08.BankNil", spec := "bankNil", inPlace := ["internal/bytealg.MakeNoZero"], unfollowed := true, recurses := true, named := ["lintel/crc.table"], apart := false, laid := [("lintel/crc.table", laid_lintel_crc_table)], narrowed := true }
def BankNilUptoSaid : Prop := bankNilUptoRow.holds Tryd.pinned (OpenSpec.upto bankNilSpec)

/-- 'lintellaw08.BankApart', WHERE WHAT IT READS IS OF BULK AT MOST 1048576: true; the input reads as it did. -/
def bankApartUptoRow : OpenClaim := { program := "ytddocchgikaahaadoor", sum := "90f40eb7cb0959d2df9bb3b697c1462f0d593c23b0b8eb8ca4063b2224297a71", func := "lintel/lintellaw08.BankApart", spec := "bankApart", inPlace := ["internal/bytealg.MakeNoZero"], unfollowed := true, recurses := true, named := ["lintel/crc.table"], apart := false, laid := [("lintel/crc.table", laid_lintel_crc_table)], narrowed := true }
def BankApartUptoSaid : Prop := bankApartUptoRow.holds Tryd.pinned (OpenSpec.upto bankApartSpec)

/-- 'lintellaw08.BankHeads', WHERE WHAT IT READS IS OF BULK AT MOST 1048576: true; the input reads as it did. -/
def bankHeadsUptoRow : OpenClaim := { program := "ytddocchgikaahaadoor", sum := "90f40eb7cb0959d2df9bb3b697c1462f0d593c23b0b8eb8ca4063b2224297a71", func := "lintel/lintellaw08.BankHeads", spec := "bankHeads", inPlace := ["internal/bytealg.MakeNoZero"], unfollowed := true, recurses := true, named := ["lintel/crc.table"], apart := false, laid := [("lintel/crc.table", laid_lintel_crc_table)], narrowed := true }
def BankHeadsUptoSaid : Prop := bankHeadsUptoRow.holds Tryd.pinned (OpenSpec.upto bankHeadsSpec)

end Rows
end Go.Proofs.YtddocchgikaahaaDoor
