/-
  No cell of these rows narrows 'for every input' (looked for: loops, veiled, ifaces, maps, wideKeys, modest, calm, conditions, laid).
  DERIVED. THE GIVEN ROWS OF THIS SEAT. 4 by the template 'for every input the law returns true; each argument reads behind the call as it read before'; 0 by the template 'total and deterministic' (their statements: YtccelefolepmeaaTotals.lean).
  GIVEN WITH THE SEED: the statements are not yours to turn. If you find one false, say at which input.
  Laid BY PROGRAM, IN A SANDBOX (cutbox-rows.mjs): the forced cells as the released guide's own fill.sh prints them over the translation 648221468708be21… (all of the seat's roots in one cut). By AI agents, Wed Nov 11 2026. No macro, syntax, notation, axiom, sorry.
-/
import Derived.Test.YtccelefolepmeaaChecked
import GoSem.Claim
import GoSem.ClaimJoined
import GoSem.ClaimMapViews
import Derived.JoinedTies
import Derived.KernelRfl
namespace Go.Proofs.Ytccelefolepmeaa
/- THE CELL 'sum', in the pinned program and in every row, IS THE sha256 OF THE DUMP (.gsa) THAT YtccelefolepmeaaProg.lean LOADS. Nothing in Lean hashes anything: it is a label: what it is worth is what the hold of that sum in a sandbox is worth. -/
noncomputable def Try.pinned : Pinned := { name := "ytccelefolepmeaa", sum := "648221468708be21e66144703806e26702b8d468bfa53a8c44d939419358e739", checked := Try.checked }
namespace Rows
def none {H : Type} : Left H := { results := [], args := [] }

/-- 'lintellaw19.VnameAttrs': WHATEVER THE INPUT: true; the input reads as it did. -/
def vnameAttrsSpec : ChangeSpec := { name := "vnameAttrs", fn := fun _ => fun
  | [d] => { results := [.lit (.bool true)], args := [d] }
  | _ => none }
def vnameAttrsRow : OpenClaim := { program := "ytccelefolepmeaa", sum := "648221468708be21e66144703806e26702b8d468bfa53a8c44d939419358e739", func := "lintel/lintellaw19.VnameAttrs", spec := "vnameAttrs", plainKeys := false, apart := false }
def VnameAttrsSaid : Prop := vnameAttrsRow.holds Try.pinned (OpenSpec.ofChange vnameAttrsSpec)

/-- ITS FALSE NEIGHBOUR: 'it returns false'. Refute it at one input. -/
def vnameAttrsWrong : ChangeSpec := { name := "vnameAttrs", fn := fun _ => fun
  | [d] => { results := [.lit (.bool false)], args := [d] }
  | _ => none }
def VnameAttrsWrongFalsely : Prop := vnameAttrsRow.holds Try.pinned (OpenSpec.ofChange vnameAttrsWrong)

/-- 'lintellaw19.VnameNames': WHATEVER THE INPUT: true; the input reads as it did. -/
def vnameNamesSpec : ChangeSpec := { name := "vnameNames", fn := fun _ => fun
  | [d1, d2, d3] => { results := [.lit (.bool true)], args := [d1, d2, d3] }
  | _ => none }
def vnameNamesRow : OpenClaim := { program := "ytccelefolepmeaa", sum := "648221468708be21e66144703806e26702b8d468bfa53a8c44d939419358e739", func := "lintel/lintellaw19.VnameNames", spec := "vnameNames", plainKeys := false, apart := false }
def VnameNamesSaid : Prop := vnameNamesRow.holds Try.pinned (OpenSpec.ofChange vnameNamesSpec)

/-- ITS FALSE NEIGHBOUR: 'it returns false'. Refute it at one input. -/
def vnameNamesWrong : ChangeSpec := { name := "vnameNames", fn := fun _ => fun
  | [d1, d2, d3] => { results := [.lit (.bool false)], args := [d1, d2, d3] }
  | _ => none }
def VnameNamesWrongFalsely : Prop := vnameNamesRow.holds Try.pinned (OpenSpec.ofChange vnameNamesWrong)

/-- 'lintellaw19.VnameTells': WHATEVER THE INPUT: true; the input reads as it did. -/
def vnameTellsSpec : ChangeSpec := { name := "vnameTells", fn := fun _ => fun
  | [d1, d2, d3, d4, d5, d6] => { results := [.lit (.bool true)], args := [d1, d2, d3, d4, d5, d6] }
  | _ => none }
def vnameTellsRow : OpenClaim := { program := "ytccelefolepmeaa", sum := "648221468708be21e66144703806e26702b8d468bfa53a8c44d939419358e739", func := "lintel/lintellaw19.VnameTells", spec := "vnameTells", plainKeys := false, apart := false }
def VnameTellsSaid : Prop := vnameTellsRow.holds Try.pinned (OpenSpec.ofChange vnameTellsSpec)

/-- ITS FALSE NEIGHBOUR: 'it returns false'. Refute it at one input. -/
def vnameTellsWrong : ChangeSpec := { name := "vnameTells", fn := fun _ => fun
  | [d1, d2, d3, d4, d5, d6] => { results := [.lit (.bool false)], args := [d1, d2, d3, d4, d5, d6] }
  | _ => none }
def VnameTellsWrongFalsely : Prop := vnameTellsRow.holds Try.pinned (OpenSpec.ofChange vnameTellsWrong)

/-- 'lintellaw19.VnameApart': WHATEVER THE INPUT: true; the input reads as it did. -/
def vnameApartSpec : ChangeSpec := { name := "vnameApart", fn := fun _ => fun
  | [d1, d2, d3, d4] => { results := [.lit (.bool true)], args := [d1, d2, d3, d4] }
  | _ => none }
def vnameApartRow : OpenClaim := { program := "ytccelefolepmeaa", sum := "648221468708be21e66144703806e26702b8d468bfa53a8c44d939419358e739", func := "lintel/lintellaw19.VnameApart", spec := "vnameApart", plainKeys := false, apart := false }
def VnameApartSaid : Prop := vnameApartRow.holds Try.pinned (OpenSpec.ofChange vnameApartSpec)

/-- ITS FALSE NEIGHBOUR: 'it returns false'. Refute it at one input. -/
def vnameApartWrong : ChangeSpec := { name := "vnameApart", fn := fun _ => fun
  | [d1, d2, d3, d4] => { results := [.lit (.bool false)], args := [d1, d2, d3, d4] }
  | _ => none }
def VnameApartWrongFalsely : Prop := vnameApartRow.holds Try.pinned (OpenSpec.ofChange vnameApartWrong)

/- THE SECOND FORM. 'bulk': how many values and letters a reading holds, each counted each time it is reached (what is shared counts as often as it is met; a slice's spare places count too). A statement '..UptoSaid' is the law's where the arguments, and the package variables that the reading takes, are together of bulk at most 1048576: NARROWER than '..Said'. Prove '..Said' where nothing that the law and all that it calls make is longer than what came in: it says more and counts as full. Else prove '..UptoSaid'. A law counts once. -/
mutual
def uptoBulk {H : Type} : DataW H → Nat
  | .lit (.string bytes) => bytes.length + 1
  | .lit _ => 1
  | .nil => 1
  | .ptr d => uptoBulk d + 1
  | .slice elems spare => uptoBulkAll elems + uptoBulkAll spare + 1
  | .agg parts => uptoBulkAll parts + 1
  | .iface _ d => uptoBulk d + 1
  | .map entries => uptoBulkEntries entries + 1
  | .held _ => 1
def uptoBulkAll {H : Type} : List (DataW H) → Nat
  | [] => 0
  | d :: r => uptoBulk d + uptoBulkAll r
def uptoBulkEntries {H : Type} : List (Lit × DataW H) → Nat
  | [] => 0
  | x :: r => uptoBulkEntry x + uptoBulkEntries r
def uptoBulkEntry {H : Type} : Lit × DataW H → Nat
  | (.string bytes, d) => bytes.length + uptoBulk d + 1
  | (_, d) => uptoBulk d + 1
 end
def uptoSmall : (H : Type) → List (DataW H) → Bool := fun _ ds => decide (uptoBulkAll ds ≤ 1048576)
def OpenSpec.upto (s : _root_.Go.ChangeSpec) : _root_.Go.OpenSpec := { _root_.Go.OpenSpec.ofChange s with cond := some uptoSmall }

/-- 'lintellaw19.VnameAttrs', WHERE WHAT IT READS IS OF BULK AT MOST 1048576: true; the input reads as it did. -/
def vnameAttrsUptoRow : OpenClaim := { program := "ytccelefolepmeaa", sum := "648221468708be21e66144703806e26702b8d468bfa53a8c44d939419358e739", func := "lintel/lintellaw19.VnameAttrs", spec := "vnameAttrs", plainKeys := false, apart := false, narrowed := true }
def VnameAttrsUptoSaid : Prop := vnameAttrsUptoRow.holds Try.pinned (OpenSpec.upto vnameAttrsSpec)

/-- 'lintellaw19.VnameNames', WHERE WHAT IT READS IS OF BULK AT MOST 1048576: true; the input reads as it did. -/
def vnameNamesUptoRow : OpenClaim := { program := "ytccelefolepmeaa", sum := "648221468708be21e66144703806e26702b8d468bfa53a8c44d939419358e739", func := "lintel/lintellaw19.VnameNames", spec := "vnameNames", plainKeys := false, apart := false, narrowed := true }
def VnameNamesUptoSaid : Prop := vnameNamesUptoRow.holds Try.pinned (OpenSpec.upto vnameNamesSpec)

/-- 'lintellaw19.VnameTells', WHERE WHAT IT READS IS OF BULK AT MOST 1048576: true; the input reads as it did. -/
def vnameTellsUptoRow : OpenClaim := { program := "ytccelefolepmeaa", sum := "648221468708be21e66144703806e26702b8d468bfa53a8c44d939419358e739", func := "lintel/lintellaw19.VnameTells", spec := "vnameTells", plainKeys := false, apart := false, narrowed := true }
def VnameTellsUptoSaid : Prop := vnameTellsUptoRow.holds Try.pinned (OpenSpec.upto vnameTellsSpec)

/-- 'lintellaw19.VnameApart', WHERE WHAT IT READS IS OF BULK AT MOST 1048576: true; the input reads as it did. -/
def vnameApartUptoRow : OpenClaim := { program := "ytccelefolepmeaa", sum := "648221468708be21e66144703806e26702b8d468bfa53a8c44d939419358e739", func := "lintel/lintellaw19.VnameApart", spec := "vnameApart", plainKeys := false, apart := false, narrowed := true }
def VnameApartUptoSaid : Prop := vnameApartUptoRow.holds Try.pinned (OpenSpec.upto vnameApartSpec)

end Rows
end Go.Proofs.Ytccelefolepmeaa
