/- The table that is laid. Conditions: none. -/
import Derived.Test.YtpbpiehcchannaaGreatDoorJAw
import Derived.Test.YtpbpiehcchannaaGreatDoorJAd
import Derived.Test.YtpbpiehcchannaaGreatDoorRows
import Derived.Lib.LaidTab
import Derived.LaidMore
namespace Go.Proofs.YtpbpiehcchannaaGreatDoor
open Go.RowKit Go.ChangeShapes Go.WideShapes Go.ChangeAt
set_option linter.unusedVariables false
set_option linter.unusedSimpArgs false
set_option maxRecDepth 100000
set_option maxHeartbeats 1500000
def crcZ : List Int := [0, 498536548, 997073096, 651767980, 1994146192, 1802195444, 1303535960, 1342533948, 3988292384, 4027552580, 3604390888, 3412177804, 2607071920, 2262029012, 2685067896, 3183342108]
def laidL : List (String × DataW Unit) := [("lintel/crc.table", Rows.laid_lintel_crc_table)]
theorem gCrc : Tryz.prog.globalNamed "lintel/crc.table" = some 1 := by kernel_rfl
theorem tCrc : (Tryz.prog.globals[1]?).map (·.type) = some 262 := by kernel_rfl
theorem crcGl : laidG 1 = some (crcZ.map fun z => Value.int .u32 z) := rfl
theorem gl_of_laid {W : World} (h : laidMetH Tryz.prog laidL W) : Gl (env0 W) W := by
 rw [MakeChecks.laidMetH_plain _ _ _ (by kernel_rfl)] at h
 have hT : Lib.TabIs Tryz.prog W "lintel/crc.table" .u32 crcZ := Lib.tabIs_of_head gCrc tCrc Tryz.underlying262 Tryz.underlying72 (by kernel_rfl) (by kernel_rfl) (show laidMet Tryz.prog (("lintel/crc.table", Lib.tabData .u32 crcZ) :: []) W from h)
 intro g cs hg
 have h1 : g = 1 := by
  unfold laidG at hg
  split at hg
  ·rfl
  ·cases hg
 subst h1
 obtain rfl := Option.some.inj (crcGl.symm.trans hg)
 have hcell : ∀ (j : Nat) (u : Value), (crcZ.map fun z => Value.int .u32 z)[j]? = some u → W.cell? ⟨1, j, none⟩ = some u := fun j u hu => by
  rw [List.getElem?_map] at hu
  obtain ⟨z, hz, rfl⟩ := Option.map_eq_some_iff.1 hu
  obtain ⟨hj, hz'⟩ := List.getElem?_eq_some_iff.1 hz
  rw [hT.cell gCrc j hj, List.getD_eq_getElem?_getD, hz]; rfl
 refine ⟨⟨rfl, ?_⟩, hcell⟩
 have h0 := hcell 0 _ rfl
 unfold World.cell? at h0
 simp only at h0
 cases hb : W.heap[1]? with
 | none => simp [hb] at h0
 | some _ => exact (Array.getElem?_eq_some_iff.1 hb).1
end Go.Proofs.YtpbpiehcchannaaGreatDoor
