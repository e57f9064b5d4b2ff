/- The law NvramNil from its arguments. Conditions: none. -/
import Derived.Test.YtebilmfljoiaeaaDoorAw
import Derived.Test.YtebilmfljoiaeaaDoorAd
import Derived.Test.YtebilmfljoiaeaaDoorNv16
import Derived.Lib.LaidTab
import Derived.LaidMore
namespace Go.Proofs.YtebilmfljoiaeaaDoor
open Go.RowKit Go.ChangeShapes Go.WideShapes Go.ChangeAt
set_option linter.unusedVariables false
set_option linter.unusedSimpArgs false
set_option maxRecDepth 100000
section
variable {W : World} {H : Type} {enc : TypeId × Value → H}
theorem open_bytesW {r : Reach} {b0 : Nat} {v : Value} {d : DataW H} {p : List MemPlace} (hv : Value.okWide Tryd.prog W r b0 31 v) (h : DataW.Trod enc Tryd.prog W 0 (fun _ => true) true 31 v d p) (hb : ∀ n ∈ d.weights Tryd.prog 31, n ≤ reachBytes) : ∃ l : List UInt8, l.length ≤ 140737488355328 ∧ rep (env0 W) W (.bs 0 l) v := by
  obtain ⟨a, n, c, rfl⟩ := okWide_slice Tryd.underlying31 hv
  obtain ⟨fuel, hf⟩ := h
  obtain ⟨l, h1, h2⟩ := ocr_bytes Tryd.underlying31 Tryd.underlying5 (by kernel_rfl) (by kernel_rfl) _ _ _ hf hb
  refine ⟨l, Nat.le_trans h1 (by decide), ?_⟩
  simp only [reps] at h2
  obtain ⟨u, us, h3, h4, h5⟩ := h2
  subst h5
  simp only [Value.cells, List.cons.injEq, and_true] at h3
  rw [h3]; exact h4
end
/-- the table, as the rows list it -/
def crcZ : List Int := [0, 498536548, 997073096, 651767980, 1994146192, 1802195444, 1303535960, 1342533948, 3988292384, 4027552580, 3604390888, 3412177804, 2607071920, 2262029012, 2685067896, 3183342108]
def laidL : List (String × DataW Unit) := [("lintel/crc.table", Rows.laid_lintel_crc_table)]
theorem gCrc : Tryd.prog.globalNamed "lintel/crc.table" = some 1 := by kernel_rfl
theorem tCrc : (Tryd.prog.globals[1]?).map (·.type) = some 132 := by kernel_rfl
theorem crcGl : laidG 1 = some (crcZ.map fun z => Value.int .u32 z) := rfl
/-- WHAT THE CONDITION GIVES THE WALKS -/
theorem gl_of_laid {W : World} (h : laidMetH Tryd.prog laidL W) : Gl (env0 W) W := by
  rw [MakeChecks.laidMetH_plain _ _ _ (by kernel_rfl)] at h
  have hT : Lib.TabIs Tryd.prog W "lintel/crc.table" .u32 crcZ := Lib.tabIs_of_head gCrc tCrc Tryd.underlying132 Tryd.underlying53 (by kernel_rfl) (by kernel_rfl) (show laidMet Tryd.prog (("lintel/crc.table", Lib.tabData .u32 crcZ) :: []) W from h)
  intro g cs hg
  have h1 : g = 1 := by
    unfold laidG at hg
    split at hg
    · rfl
    · cases hg
  subst h1
  obtain rfl := Option.some.inj (crcGl.symm.trans hg)
  have hcell : ∀ (j : Nat) (u : Value), (crcZ.map fun z => Value.int .u32 z)[j]? = some u → W.cell? ⟨1, j, none⟩ = some u := fun j u hu => by
    rw [List.getElem?_map] at hu
    obtain ⟨z, hz, rfl⟩ := Option.map_eq_some_iff.1 hu
    obtain ⟨hj, hz'⟩ := List.getElem?_eq_some_iff.1 hz
    rw [hT.cell gCrc j hj, List.getD_eq_getElem?_getD, hz]; rfl
  refine ⟨⟨rfl, ?_⟩, hcell⟩
  have h0 := hcell 0 _ rfl
  unfold World.cell? at h0
  simp only at h0
  cases hb : W.heap[1]? with
  | none => simp [hb] at h0
  | some _ => exact (Array.getElem?_eq_some_iff.1 hb).1
theorem walk_NvramNil (W : World) (hL : laidMetH Tryd.prog laidL W) (v1 : Value) (key : List UInt8) (h1 : key.length ≤ 140737488355328 ∧ rep (env0 W) W (.bs 0 key) v1) (v2 : Value) (val : List UInt8) (h2 : val.length ≤ 140737488355328 ∧ rep (env0 W) W (.bs 0 val) v2) :
    Calls Tryd.prog 4 #[v1, v2] W fun e W' => e = .returned (.bool true) ∧ Below W.heap.size W W' :=
  join_val (law_nvnil works9_vc 0 0 key val) (cargs := [v1, v2]) (by simp only [reps, rep, Value.cells]; exact ⟨_, _, rfl, h1.2, _, _, rfl, h2.2, rfl⟩) (gl_of_laid hL)
end Go.Proofs.YtebilmfljoiaeaaDoor
