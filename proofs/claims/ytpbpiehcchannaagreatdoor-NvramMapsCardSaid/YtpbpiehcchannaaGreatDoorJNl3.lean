/- The arguments of the laws of a store; the table that is laid. Conditions: none. -/
import Derived.Test.YtpbpiehcchannaaGreatDoorJAw
import Derived.Test.YtpbpiehcchannaaGreatDoorJAd
import Derived.Test.YtpbpiehcchannaaGreatDoorJHq
import Derived.Lib.LaidTab
import Derived.LaidMore
namespace Go.Proofs.YtpbpiehcchannaaGreatDoor
open Go.RowKit Go.ChangeShapes Go.WideShapes Go.ChangeAt
set_option linter.unusedVariables false
set_option linter.unusedSimpArgs false
set_option maxRecDepth 100000
set_option maxHeartbeats 1500000
section
variable {W : World} {H : Type} {enc : TypeId × Value → H}
theorem oc_opB : OCR Tryz.prog W H enc reachBytes 26 OpBOk (opB 0) := by
  intro fuel cs x h hb
  obtain ⟨xs, n, _, hxe, hl, hxl, hget⟩ := DataW.trod_struct Tryz.underlying26 h
  have hl5 : cs.length = 5 := hl.trans (by kernel_rfl)
  have hxl5 : xs.length = 5 := hxl
  have c3 : Tryz.prog.cellsOf 3 = 1 := by kernel_rfl
  have c23 : Tryz.prog.cellsOf 23 = 1 := by kernel_rfl
  obtain ⟨u0, u1, u2, u3, u4, rfl⟩ : ∃ u0 u1 u2 u3 u4, cs = [u0, u1, u2, u3, u4] := by
    match cs, hl5 with
    | [a, b, c, d, e], _ => exact ⟨a, b, c, d, e, rfl⟩
  obtain ⟨x0, x1, x2, x3, x4, rfl⟩ : ∃ u0 u1 u2 u3 u4, xs = [u0, u1, u2, u3, u4] := by
    match xs, hxl5 with
    | [a, b, c, d, e], _ => exact ⟨a, b, c, d, e, rfl⟩
  have g0 := hget 0 _ rfl
  have g1 := hget 1 _ rfl
  have g2 := hget 2 _ rfl
  have g3 := hget 3 _ rfl
  have g4 := hget 4 _ rfl
  simp only [c3, c23, List.drop_zero, List.drop_succ_cons, List.take_succ_cons, List.take_zero, List.getElem?_cons_zero, List.getElem?_cons_succ] at g0 g1 g2 g3 g4
  subst hxe
  simp only [DataW.weights, Tryz.underlying26, List.map_cons, List.map_nil, DataW.weightsEach, List.mem_append] at hb
  obtain ⟨k0, w0, r0⟩ := oc_int Tryz.underlying3 n _ _ g0
  obtain ⟨k1, w1, r1⟩ := oc_int Tryz.underlying3 n _ _ g1
  obtain ⟨k2, w2, r2⟩ := oc_int Tryz.underlying3 n _ _ g2
  obtain ⟨k3, w3, r3⟩ := ocr_bytes Tryz.underlying23 Tryz.underlying5 (by kernel_rfl) (by kernel_rfl) n _ _ g3 (fun m hm => hb m (by simp [hm]))
  obtain ⟨k4, w4, r4⟩ := ocr_bytes Tryz.underlying23 Tryz.underlying5 (by kernel_rfl) (by kernel_rfl) n _ _ g4 (fun m hm => hb m (by simp [hm]))
  refine ⟨⟨k0, k1, k2, k3, k4⟩, ⟨bounds_i64 w0, bounds_i64 w1, bounds_i64 w2, Nat.le_trans w3 (by decide), Nat.le_trans w4 (by decide)⟩, ?_⟩
  simp only [opB]
  exact reps_append r0 (reps_append r1 (reps_append r2 (reps_append r3 r4)))
theorem open_opsB {r : Reach} {b0 : Nat} {v : Value} {d : DataW H} {p : List MemPlace} (hv : Value.okWide Tryz.prog W r b0 22 v) (h : DataW.Trod enc Tryz.prog W 0 (fun _ => true) true 22 v d p) (hb : ∀ n ∈ d.weights Tryz.prog 22, n ≤ reachBytes) : ∃ l : List OpB, (l.length * 72 ≤ reachBytes ∧ ∀ o ∈ l, OpBOk o) ∧ rep (env0 W) W (.sl 0 5 (opB 0) opB0 l) v := by
  obtain ⟨a, n, c, rfl⟩ := okWide_slice Tryz.underlying22 hv
  obtain ⟨fuel, hf⟩ := h
  have e : Tryz.prog.bytesOf 26 = 72 := by kernel_rfl
  obtain ⟨l, ⟨⟨_, h0⟩, h1⟩, h2⟩ := ocr_slice Tryz.underlying22 (sz := 5) (by kernel_rfl) (by decide) opB0 oc_opB _ _ _ hf hb
  rw [e] at h0
  refine ⟨l, ⟨h0, h1⟩, ?_⟩
  simp only [reps] at h2
  obtain ⟨u, us, h3, h4, h5⟩ := h2
  subst h5
  simp only [Value.cells, List.cons.injEq, and_true] at h3
  rw [h3]; exact h4
end
/-- the table, as the rows list it -/
def crcZ : List Int := [0, 498536548, 997073096, 651767980, 1994146192, 1802195444, 1303535960, 1342533948, 3988292384, 4027552580, 3604390888, 3412177804, 2607071920, 2262029012, 2685067896, 3183342108]
def laidL : List (String × DataW Unit) := [("lintel/crc.table", Rows.laid_lintel_crc_table)]
theorem gCrc : Tryz.prog.globalNamed "lintel/crc.table" = some 1 := by kernel_rfl
theorem tCrc : (Tryz.prog.globals[1]?).map (·.type) = some 262 := by kernel_rfl
theorem crcGl : laidG 1 = some (crcZ.map fun z => Value.int .u32 z) := rfl
/-- WHAT THE CONDITION GIVES THE WALKS -/
theorem gl_of_laid {W : World} (h : laidMetH Tryz.prog laidL W) : Gl (env0 W) W := by
  rw [MakeChecks.laidMetH_plain _ _ _ (by kernel_rfl)] at h
  have hT : Lib.TabIs Tryz.prog W "lintel/crc.table" .u32 crcZ := Lib.tabIs_of_head gCrc tCrc Tryz.underlying262 Tryz.underlying72 (by kernel_rfl) (by kernel_rfl) (show laidMet Tryz.prog (("lintel/crc.table", Lib.tabData .u32 crcZ) :: []) W from h)
  intro g cs hg
  have h1 : g = 1 := by
    unfold laidG at hg
    split at hg
    · rfl
    · cases hg
  subst h1
  obtain rfl := Option.some.inj (crcGl.symm.trans hg)
  have hcell : ∀ (j : Nat) (u : Value), (crcZ.map fun z => Value.int .u32 z)[j]? = some u → W.cell? ⟨1, j, none⟩ = some u := fun j u hu => by
    rw [List.getElem?_map] at hu
    obtain ⟨z, hz, rfl⟩ := Option.map_eq_some_iff.1 hu
    obtain ⟨hj, hz'⟩ := List.getElem?_eq_some_iff.1 hz
    rw [hT.cell gCrc j hj, List.getD_eq_getElem?_getD, hz]; rfl
  refine ⟨⟨rfl, ?_⟩, hcell⟩
  have h0 := hcell 0 _ rfl
  unfold World.cell? at h0
  simp only at h0
  cases hb : W.heap[1]? with
  | none => simp [hb] at h0
  | some _ => exact (Array.getElem?_eq_some_iff.1 hb).1
end Go.Proofs.YtpbpiehcchannaaGreatDoor
