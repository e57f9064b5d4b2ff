/-
  NARROWER THAN 'FOR EVERY INPUT', by the rows' own cells (each row's printed sentence says how): VarsJoins: laid · VarsFull: laid · VarsNil: laid.
  DERIVED. THE GIVEN ROWS OF THIS SEAT. 3 by the template 'for every input the law returns true; each argument reads behind the call as it read before'; 0 by the template 'total and deterministic' (their statements: YtmjpbmcbcppkfaaGreatDoorTotals.lean).
  GIVEN WITH THE SEED: the statements are not yours to turn. If you find one false, say at which input.
  Laid BY PROGRAM, IN A SANDBOX (cutbox-rows.mjs): the forced cells as the released guide's own fill.sh prints them over the translation 02fd27190089777f… (all of the seat's roots in one cut). By AI agents, Wed Nov 11 2026. No macro, syntax, notation, axiom, sorry.
-/
import Derived.Test.YtmjpbmcbcppkfaaGreatDoorChecked
import GoSem.Claim
import GoSem.ClaimJoined
import GoSem.ClaimMapViews
import Derived.JoinedTies
import Derived.KernelRfl
namespace Go.Proofs.YtmjpbmcbcppkfaaGreatDoor
/- THE CELL 'sum', in the pinned program and in every row, IS THE sha256 OF THE DUMP (.gsa) THAT YtmjpbmcbcppkfaaGreatDoorProg.lean LOADS. Nothing in Lean hashes anything: it is a label: what it is worth is what the hold of that sum in a sandbox is worth. -/
noncomputable def Tryz.pinned : Pinned := { name := "ytmjpbmcbcppkfaagreatdoor", sum := "02fd27190089777fcba69656ff79f51466db6754c747890d83d88048a8db59a1", checked := Tryz.checked }
namespace Rows
def none {H : Type} : Left H := { results := [], args := [] }

/- WHAT THE LISTED PACKAGE-LEVEL VARIABLES READ AS WHEN THE CALL BEGINS. Each datum BY PROGRAM (the guide's laid-datum.mjs) off the statement by which the dump's own 'gosem.cut.vars' lays the variable. In a bare row this is a premise. The card (YtmjpbmcbcppkfaaGreatDoorCards.lean) ties it to the program's text. -/
def laid_lintel_crc_table {H : Type} : DataW H := .agg [.lit (.int .u32 0), .lit (.int .u32 498536548), .lit (.int .u32 997073096), .lit (.int .u32 651767980), .lit (.int .u32 1994146192), .lit (.int .u32 1802195444), .lit (.int .u32 1303535960), .lit (.int .u32 1342533948), .lit (.int .u32 3988292384), .lit (.int .u32 4027552580), .lit (.int .u32 3604390888), .lit (.int .u32 3412177804), .lit (.int .u32 2607071920), .lit (.int .u32 2262029012), .lit (.int .u32 2685067896), .lit (.int .u32 3183342108)]
def laid_lintel_cms_hashes {H : Type} : DataW H := .agg [.lit (.int .u64 2), .lit (.int .u64 16), .lit (.int .u64 840), .lit (.int .u64 1), .lit (.int .u64 101), .lit (.int .u64 3), .lit (.int .u64 4), .lit (.int .u64 2), .lit (.int .u64 1)]
def laid_lintel_cms_ciphers {H : Type} : DataW H := .agg [.lit (.int .u64 1), .lit (.int .u64 2), .lit (.int .u64 840), .lit (.int .u64 113549), .lit (.int .u64 1), .lit (.int .u64 1), .lit (.int .u64 1)]
def laid_lintel_cms_wrapped {H : Type} : DataW H := .agg [.lit (.int .u64 1), .lit (.int .u64 2), .lit (.int .u64 840), .lit (.int .u64 113549), .lit (.int .u64 1), .lit (.int .u64 7), .lit (.int .u64 2)]
def laid_lintel_cms_kinds {H : Type} : DataW H := .agg [.lit (.int .u64 1), .lit (.int .u64 2), .lit (.int .u64 840), .lit (.int .u64 113549), .lit (.int .u64 1), .lit (.int .u64 9), .lit (.int .u64 3)]
def laid_lintel_cms_digests {H : Type} : DataW H := .agg [.lit (.int .u64 1), .lit (.int .u64 2), .lit (.int .u64 840), .lit (.int .u64 113549), .lit (.int .u64 1), .lit (.int .u64 9), .lit (.int .u64 4)]

/-- 'lintellaw23.VarsJoins': WHATEVER THE INPUT: true; the input reads as it did. -/
def varsJoinsSpec : ChangeSpec := { name := "varsJoins", fn := fun _ => fun
  | [d] => { results := [.lit (.bool true)], args := [d] }
  | _ => none }
def varsJoinsRow : OpenClaim := { program := "ytmjpbmcbcppkfaagreatdoor", sum := "02fd27190089777fcba69656ff79f51466db6754c747890d83d88048a8db59a1", func := "lintel/lintellaw23.VarsJoins", spec := "varsJoins", inPlace := ["internal/bytealg.MakeNoZero", "internal/bytealg.Compare"], unfollowed := true, recurses := true, named := ["lintel/crc.table", "lintel/cms.wrapped", "lintel/cms.hashes", "lintel/cms.kinds", "lintel/cms.digests", "lintel/cms.ciphers"], plainKeys := false, apart := false, laid := [("lintel/crc.table", laid_lintel_crc_table), ("lintel/cms.hashes", laid_lintel_cms_hashes), ("lintel/cms.ciphers", laid_lintel_cms_ciphers), ("lintel/cms.wrapped", laid_lintel_cms_wrapped), ("lintel/cms.kinds", laid_lintel_cms_kinds), ("lintel/cms.digests", laid_lintel_cms_digests)] }
def VarsJoinsSaid : Prop := varsJoinsRow.holds Tryz.pinned (OpenSpec.ofChange varsJoinsSpec)

/-- ITS FALSE NEIGHBOUR: 'it returns false'. Refute it at one input. -/
def varsJoinsWrong : ChangeSpec := { name := "varsJoins", fn := fun _ => fun
  | [d] => { results := [.lit (.bool false)], args := [d] }
  | _ => none }
def VarsJoinsWrongFalsely : Prop := varsJoinsRow.holds Tryz.pinned (OpenSpec.ofChange varsJoinsWrong)

/-- 'lintellaw23.VarsFull': WHATEVER THE INPUT: true; the input reads as it did. -/
def varsFullSpec : ChangeSpec := { name := "varsFull", fn := fun _ => fun
  | [d1, d2, d3] => { results := [.lit (.bool true)], args := [d1, d2, d3] }
  | _ => none }
def varsFullRow : OpenClaim := { program := "ytmjpbmcbcppkfaagreatdoor", sum := "02fd27190089777fcba69656ff79f51466db6754c747890d83d88048a8db59a1", func := "lintel/lintellaw23.VarsFull", spec := "varsFull", inPlace := ["internal/bytealg.MakeNoZero", "internal/bytealg.Compare"], unfollowed := true, recurses := true, named := ["lintel/crc.table", "lintel/cms.wrapped", "lintel/cms.hashes", "lintel/cms.kinds", "lintel/cms.digests", "lintel/cms.ciphers"], plainKeys := false, apart := false, laid := [("lintel/crc.table", laid_lintel_crc_table), ("lintel/cms.hashes", laid_lintel_cms_hashes), ("lintel/cms.ciphers", laid_lintel_cms_ciphers), ("lintel/cms.wrapped", laid_lintel_cms_wrapped), ("lintel/cms.kinds", laid_lintel_cms_kinds), ("lintel/cms.digests", laid_lintel_cms_digests)] }
def VarsFullSaid : Prop := varsFullRow.holds Tryz.pinned (OpenSpec.ofChange varsFullSpec)

/-- ITS FALSE NEIGHBOUR: 'it returns false'. Refute it at one input. -/
def varsFullWrong : ChangeSpec := { name := "varsFull", fn := fun _ => fun
  | [d1, d2, d3] => { results := [.lit (.bool false)], args := [d1, d2, d3] }
  | _ => none }
def VarsFullWrongFalsely : Prop := varsFullRow.holds Tryz.pinned (OpenSpec.ofChange varsFullWrong)

/-- 'lintellaw23.VarsNil': WHATEVER THE INPUT: true; the input reads as it did. -/
def varsNilSpec : ChangeSpec := { name := "varsNil", fn := fun _ => fun
  | [d] => { results := [.lit (.bool true)], args := [d] }
  | _ => none }
def varsNilRow : OpenClaim := { program := "ytmjpbmcbcppkfaagreatdoor", sum := "02fd27190089777fcba69656ff79f51466db6754c747890d83d88048a8db59a1", func := "lintel/lintellaw23.VarsNil", spec := "varsNil", inPlace := ["internal/bytealg.MakeNoZero", "internal/bytealg.Compare"], unfollowed := true, recurses := true, named := ["lintel/crc.table", "lintel/cms.wrapped", "lintel/cms.hashes", "lintel/cms.kinds", "lintel/cms.digests", "lintel/cms.ciphers"], plainKeys := false, apart := false, laid := [("lintel/crc.table", laid_lintel_crc_table), ("lintel/cms.hashes", laid_lintel_cms_hashes), ("lintel/cms.ciphers", laid_lintel_cms_ciphers), ("lintel/cms.wrapped", laid_lintel_cms_wrapped), ("lintel/cms.kinds", laid_lintel_cms_kinds), ("lintel/cms.digests", laid_lintel_cms_digests)] }
def VarsNilSaid : Prop := varsNilRow.holds Tryz.pinned (OpenSpec.ofChange varsNilSpec)

/-- ITS FALSE NEIGHBOUR: 'it returns false'. Refute it at one input. -/
def varsNilWrong : ChangeSpec := { name := "varsNil", fn := fun _ => fun
  | [d] => { results := [.lit (.bool false)], args := [d] }
  | _ => none }
def VarsNilWrongFalsely : Prop := varsNilRow.holds Tryz.pinned (OpenSpec.ofChange varsNilWrong)

/- THE SECOND FORM. 'bulk': how many values and letters a reading holds, each counted each time it is reached (what is shared counts as often as it is met; a slice's spare places count too). A statement '..UptoSaid' is the law's where the arguments, and the package variables that the reading takes, are together of bulk at most 1048576: NARROWER than '..Said'. Prove '..Said' where nothing that the law and all that it calls make is longer than what came in: it says more and counts as full. Else prove '..UptoSaid'. A law counts once. -/
mutual
def uptoBulk {H : Type} : DataW H → Nat
  | .lit (.string bytes) => bytes.length + 1
  | .lit _ => 1
  | .nil => 1
  | .ptr d => uptoBulk d + 1
  | .slice elems spare => uptoBulkAll elems + uptoBulkAll spare + 1
  | .agg parts => uptoBulkAll parts + 1
  | .iface _ d => uptoBulk d + 1
  | .map entries => uptoBulkEntries entries + 1
  | .held _ => 1
def uptoBulkAll {H : Type} : List (DataW H) → Nat
  | [] => 0
  | d :: r => uptoBulk d + uptoBulkAll r
def uptoBulkEntries {H : Type} : List (Lit × DataW H) → Nat
  | [] => 0
  | x :: r => uptoBulkEntry x + uptoBulkEntries r
def uptoBulkEntry {H : Type} : Lit × DataW H → Nat
  | (.string bytes, d) => bytes.length + uptoBulk d + 1
  | (_, d) => uptoBulk d + 1
 end
def uptoSmall : (H : Type) → List (DataW H) → Bool := fun _ ds => decide (uptoBulkAll ds ≤ 1048576)
def OpenSpec.upto (s : _root_.Go.ChangeSpec) : _root_.Go.OpenSpec := { _root_.Go.OpenSpec.ofChange s with cond := some uptoSmall }

/-- 'lintellaw23.VarsJoins', WHERE WHAT IT READS IS OF BULK AT MOST 1048576: true; the input reads as it did. -/
def varsJoinsUptoRow : OpenClaim := { program := "ytmjpbmcbcppkfaagreatdoor", sum := "02fd27190089777fcba69656ff79f51466db6754c747890d83d88048a8db59a1", func := "lintel/lintellaw23.VarsJoins", spec := "varsJoins", inPlace := ["internal/bytealg.MakeNoZero", "internal/bytealg.Compare"], unfollowed := true, recurses := true, named := ["lintel/crc.table", "lintel/cms.wrapped", "lintel/cms.hashes", "lintel/cms.kinds", "lintel/cms.digests", "lintel/cms.ciphers"], plainKeys := false, apart := false, laid := [("lintel/crc.table", laid_lintel_crc_table), ("lintel/cms.hashes", laid_lintel_cms_hashes), ("lintel/cms.ciphers", laid_lintel_cms_ciphers), ("lintel/cms.wrapped", laid_lintel_cms_wrapped), ("lintel/cms.kinds", laid_lintel_cms_kinds), ("lintel/cms.digests", laid_lintel_cms_digests)], narrowed := true }
def VarsJoinsUptoSaid : Prop := varsJoinsUptoRow.holds Tryz.pinned (OpenSpec.upto varsJoinsSpec)

/-- 'lintellaw23.VarsFull', WHERE WHAT IT READS IS OF BULK AT MOST 1048576: true; the input reads as it did. -/
def varsFullUptoRow : OpenClaim := { program := "ytmjpbmcbcppkfaagreatdoor", sum := "02fd27190089777fcba69656ff79f51466db6754c747890d83d88048a8db59a1", func := "lintel/lintellaw23.VarsFull", spec := "varsFull", inPlace := ["internal/bytealg.MakeNoZero", "internal/bytealg.Compare"], unfollowed := true, recurses := true, named := ["lintel/crc.table", "lintel/cms.wrapped", "lintel/cms.hashes", "lintel/cms.kinds", "lintel/cms.digests", "lintel/cms.ciphers"], plainKeys := false, apart := false, laid := [("lintel/crc.table", laid_lintel_crc_table), ("lintel/cms.hashes", laid_lintel_cms_hashes), ("lintel/cms.ciphers", laid_lintel_cms_ciphers), ("lintel/cms.wrapped", laid_lintel_cms_wrapped), ("lintel/cms.kinds", laid_lintel_cms_kinds), ("lintel/cms.digests", laid_lintel_cms_digests)], narrowed := true }
def VarsFullUptoSaid : Prop := varsFullUptoRow.holds Tryz.pinned (OpenSpec.upto varsFullSpec)

/-- 'lintellaw23.VarsNil', WHERE WHAT IT READS IS OF BULK AT MOST 1048576: true; the input reads as it did. -/
def varsNilUptoRow : OpenClaim := { program := "ytmjpbmcbcppkfaagreatdoor", sum := "02fd27190089777fcba69656ff79f51466db6754c747890d83d88048a8db59a1", func := "lintel/lintellaw23.VarsNil", spec := "varsNil", inPlace := ["internal/bytealg.MakeNoZero", "internal/bytealg.Compare"], unfollowed := true, recurses := true, named := ["lintel/crc.table", "lintel/cms.wrapped", "lintel/cms.hashes", "lintel/cms.kinds", "lintel/cms.digests", "lintel/cms.ciphers"], plainKeys := false, apart := false, laid := [("lintel/crc.table", laid_lintel_crc_table), ("lintel/cms.hashes", laid_lintel_cms_hashes), ("lintel/cms.ciphers", laid_lintel_cms_ciphers), ("lintel/cms.wrapped", laid_lintel_cms_wrapped), ("lintel/cms.kinds", laid_lintel_cms_kinds), ("lintel/cms.digests", laid_lintel_cms_digests)], narrowed := true }
def VarsNilUptoSaid : Prop := varsNilUptoRow.holds Tryz.pinned (OpenSpec.upto varsNilSpec)

end Rows
end Go.Proofs.YtmjpbmcbcppkfaaGreatDoor
