/- The table that is laid. The arguments of the laws of a book. The arguments of the laws of variables: what is done, slices of bytes and numbers. The law VarsNil from its arguments. Conditions: the premises of each law. -/
import Derived.Test.YtmjpbmcbcppkfaaGreatDoorJAw
import Derived.Test.YtmjpbmcbcppkfaaGreatDoorJAd
import Derived.Test.YtmjpbmcbcppkfaaGreatDoorRows
import Derived.Lib.LaidTab
import Derived.LaidMore
import Derived.Test.YtmjpbmcbcppkfaaGreatDoorJKj
import Derived.Test.YtmjpbmcbcppkfaaGreatDoorJVvd
namespace Go.Proofs.YtmjpbmcbcppkfaaGreatDoor
open Go.RowKit Go.ChangeShapes Go.WideShapes Go.ChangeAt
set_option linter.unusedVariables false
set_option linter.unusedSimpArgs false
set_option maxRecDepth 100000
set_option maxHeartbeats 1500000
def crcZ : List Int := [0, 498536548, 997073096, 651767980, 1994146192, 1802195444, 1303535960, 1342533948, 3988292384, 4027552580, 3604390888, 3412177804, 2607071920, 2262029012, 2685067896, 3183342108]
def laidL : List (String × DataW Unit) := [("lintel/crc.table", Rows.laid_lintel_crc_table), ("lintel/cms.hashes", Rows.laid_lintel_cms_hashes), ("lintel/cms.ciphers", Rows.laid_lintel_cms_ciphers), ("lintel/cms.wrapped", Rows.laid_lintel_cms_wrapped), ("lintel/cms.kinds", Rows.laid_lintel_cms_kinds), ("lintel/cms.digests", Rows.laid_lintel_cms_digests)]
theorem gCrc : Tryz.prog.globalNamed "lintel/crc.table" = some 2 := by kernel_rfl
theorem tCrc : (Tryz.prog.globals[2]?).map (·.type) = some 365 := by kernel_rfl
theorem crcGl : laidG 2 = some (crcZ.map fun z => Value.int .u32 z) := rfl
theorem gl_of_laid {W : World} (h : laidMetH Tryz.prog laidL W) : Gl (env0 W) W := by
 rw [MakeChecks.laidMetH_plain _ _ _ (by kernel_rfl)] at h
 have hT : Lib.TabIs Tryz.prog W "lintel/crc.table" .u32 crcZ := Lib.tabIs_of_head gCrc tCrc Tryz.underlying365 Tryz.underlying34 (by kernel_rfl) (by kernel_rfl) (show laidMet Tryz.prog (("lintel/crc.table", Lib.tabData .u32 crcZ) :: laidL.tail) W from h)
 intro g cs hg
 have h1 : g = 2 := by
  unfold laidG at hg
  split at hg
  ·rfl
  ·cases hg
 subst h1
 obtain rfl := Option.some.inj (crcGl.symm.trans hg)
 have hcell : ∀ (j : Nat) (u : Value), (crcZ.map fun z => Value.int .u32 z)[j]? = some u → W.cell? ⟨2, j, none⟩ = some u := fun j u hu => by
  rw [List.getElem?_map] at hu
  obtain ⟨z, hz, rfl⟩ := Option.map_eq_some_iff.1 hu
  obtain ⟨hj, hz'⟩ := List.getElem?_eq_some_iff.1 hz
  rw [hT.cell gCrc j hj, List.getD_eq_getElem?_getD, hz]; rfl
 refine ⟨⟨rfl, ?_⟩, hcell⟩
 have h0 := hcell 0 _ rfl
 unfold World.cell? at h0
 simp only at h0
 cases hb : W.heap[2]? with
 | none => simp [hb] at h0
 | some _ => exact (Array.getElem?_eq_some_iff.1 hb).1
end Go.Proofs.YtmjpbmcbcppkfaaGreatDoor
namespace Go.Proofs.YtmjpbmcbcppkfaaGreatDoor
open Go.RowKit Go.ChangeShapes Go.WideShapes Go.ChangeAt
set_option linter.unusedVariables false
set_option linter.unusedSimpArgs false
set_option maxRecDepth 100000
set_option maxHeartbeats 1500000
section
variable {W : World} {H : Type} {enc : TypeId × Value → H} {R : Nat}
theorem ocr_string {T : TypeId} (hT : Tryz.prog.underlying T = some .string) : OCR Tryz.prog W H enc R T (fun s : ByteArray => s.size ≤ R) (fun s => [.val (.string s)]) := by
 intro fuel cs x h hb
 obtain ⟨s, e0, e1, _⟩ := DataW.trod_string hT h
 refine ⟨s, ?_, ?_⟩
 ·subst e1
  have := hb s.data.toList.length (by simp [DataW.weights])
  simpa using this
 ·rw [e0]
  simp only [reps, rep]
  exact ⟨_, _, rfl, rfl, rfl⟩
theorem ocr_arr {T E n : Nat} (hT : Tryz.prog.underlying T = some (.array n E)) (hE : Tryz.prog.underlying E = some (.int .u8)) (hct : Tryz.prog.cellsOf T = n) (hcE : Tryz.prog.cellsOf E = 1) : OCR Tryz.prog W H enc R T (fun g : List UInt8 => g.length = n) (fun g => bytesA n g) := by
 intro fuel cs x h _
 obtain ⟨xs, m, rfl, hx, hl, hxl, hget⟩ := DataW.trod_array hT h
 have hcl : cs.length = n := by rw [hl, hct]
 obtain ⟨g, hg⟩ := bvs_of_all cs (fun i hi => by
  have hi' : i < n := by omega
  have h1 := hget i hi'
  rw [hcE, Nat.mul_one] at h1
  have hxi : xs[i]? = some xs[i] := List.getElem?_eq_getElem (by omega)
  rw [hxi] at h1
  have e : (cs.drop i).take 1 = [cs[i]] := by
   rw [List.drop_eq_getElem_cons hi]; rfl
  rw [e] at h1
  obtain ⟨a, e0, _, wa⟩ := DataW.trod_int hE h1
  simp only [List.cons.injEq, and_true] at e0
  obtain ⟨b, hb⟩ := bv_of_wf wa
  exact ⟨b, by rw [List.getElem?_eq_getElem hi, e0, hb]⟩)
 have hgl : g.length = n := by rw [← hcl, hg]; simp
 refine ⟨g, hgl, ?_⟩
 have := reps_bytesA (env0 W) W g n
 rw [range_getD g n hgl] at this
 rw [hg]
 exact this
theorem bounds_u32 {n : Int} (h : (Lit.int .u32 n).wf = true) : 0 ≤ n ∧ n ≤ 4294967295 := by
 simp [Lit.wf, IntKind.min, IntKind.max, IntKind.signed, IntKind.bits] at h; omega
theorem bounds_u8 {n : Int} (h : (Lit.int .u8 n).wf = true) : 0 ≤ n ∧ n ≤ 255 := by
 simp [Lit.wf, IntKind.min, IntKind.max, IntKind.signed, IntKind.bits] at h; omega
end
end Go.Proofs.YtmjpbmcbcppkfaaGreatDoor
namespace Go.Proofs.YtmjpbmcbcppkfaaGreatDoor
open Go.RowKit Go.ChangeShapes Go.WideShapes Go.ChangeAt
set_option linter.unusedVariables false
set_option linter.unusedSimpArgs false
set_option maxRecDepth 100000
set_option maxHeartbeats 1500000
section
variable {W : World} {H : Type} {enc : TypeId × Value → H} {R : Nat}
theorem opQ_app (o : OpQ) : opQ o = [.val (.int .i64 o.K)] ++ ([.val (.string o.nm)] ++ (bytesA 16 o.g ++ ([.val (.int .u32 o.a)] ++ ([.bs 0 o.d] ++ [.val (.int .i64 o.n)])))) := rfl
theorem cutq {α : Type} (cs : List α) (h : cs.length = 21) : cs = (cs.drop 0).take 1 ++ ((cs.drop 1).take 1 ++ ((cs.drop 2).take 16 ++ ((cs.drop 18).take 1 ++ ((cs.drop 19).take 1 ++ (cs.drop 20).take 1)))) := by
 have e : ∀ a b : Nat, (cs.drop a).take b ++ cs.drop (a + b) = cs.drop a := fun a b => by
  have := List.take_append_drop b (cs.drop a)
  rw [List.drop_drop] at this
  exact this
 have e6 : (cs.drop 20).take 1 = cs.drop 20 := List.take_of_length_le (by rw [List.length_drop]; omega)
 rw [e6, e 19 1, e 18 1, e 2 16, e 1 1, e 0 1]
 rfl
theorem ocr_opq : OCR Tryz.prog W H enc reachBytes 51 OpQ.Ok opQ := by
 intro fuel cs x h hb
 obtain ⟨xs, n, _, hxe, hl, hxl, hget⟩ := DataW.trod_struct Tryz.underlying51 h
 have hl21 : cs.length = 21 := hl.trans (by kernel_rfl)
 have hxl6 : xs.length = 6 := hxl
 have c0 : Tryz.prog.cellsOf 3 = 1 := by kernel_rfl
 have c1 : Tryz.prog.cellsOf 9 = 1 := by kernel_rfl
 have c2 : Tryz.prog.cellsOf 33 = 16 := by kernel_rfl
 have c3 : Tryz.prog.cellsOf 34 = 1 := by kernel_rfl
 have c6 : Tryz.prog.cellsOf 24 = 1 := by kernel_rfl
 obtain ⟨x0, x1, x2, x3, x4, x5, rfl⟩ : ∃ u0 u1 u2 u3 u4 u5, xs = [u0, u1, u2, u3, u4, u5] := by
  match xs, hxl6 with
  | [a, b, c, d, e, f], _ => exact ⟨a, b, c, d, e, f, rfl⟩
 have g0 := hget 0 _ rfl
 have g1 := hget 1 _ rfl
 have g2 := hget 2 _ rfl
 have g3 := hget 3 _ rfl
 have g4 := hget 4 _ rfl
 have g5 := hget 5 _ rfl
 simp only [c0, c1, c2, c3, c6, List.getElem?_cons_zero, List.getElem?_cons_succ] at g0 g1 g2 g3 g4 g5
 subst hxe
 simp only [DataW.weights, Tryz.underlying51, List.map_cons, List.map_nil, DataW.weightsEach, List.mem_append] at hb
 obtain ⟨k0, w0, r0⟩ := oc_int Tryz.underlying3 n _ _ g0
 obtain ⟨k1, w1, r1⟩ := ocr_string Tryz.underlying9 n _ _ g1 (fun m hm => hb m (by simp [hm]))
 obtain ⟨k2, w2, r2⟩ := ocr_arr Tryz.underlying33 Tryz.underlying5 (by kernel_rfl) (by kernel_rfl) n _ _ g2 (fun m hm => hb m (by simp [hm]))
 obtain ⟨k3, w3, r3⟩ := oc_int Tryz.underlying34 n _ _ g3
 obtain ⟨k4, w4, r4⟩ := ocr_bytes Tryz.underlying24 Tryz.underlying5 (by kernel_rfl) (by kernel_rfl) n _ _ g4 (fun m hm => hb m (by simp [hm]))
 obtain ⟨k5, w5, r5⟩ := oc_int Tryz.underlying3 n _ _ g5
 refine ⟨⟨k0, k1, k2, k3, k4, k5⟩, ⟨bounds_i64 w0, Nat.le_trans w1 (by decide), w2, bounds_u32 w3, Nat.le_trans w4 (by decide), bounds_i64 w5⟩, ?_⟩
 rw [opQ_app, cutq cs hl21]
 exact reps_append r0 (reps_append r1 (reps_append r2 (reps_append r3 (reps_append r4 r5))))
theorem open_opq {r : Reach} {b0 : Nat} {v : Value} {d : DataW H} {p : List MemPlace} (hv : Value.okWide Tryz.prog W r b0 51 v) (h : DataW.Trod enc Tryz.prog W 0 (fun _ => true) true 51 v d p) (hb : ∀ n ∈ d.weights Tryz.prog 51, n ≤ reachBytes) : ∃ o : OpQ, o.Ok ∧ rep (env0 W) W (.agg (opQ o)) v := by
 obtain ⟨cs, rfl, _⟩ := okWide_struct Tryz.underlying51 hv
 obtain ⟨fuel, hf⟩ := h
 obtain ⟨o, h1, h2⟩ := ocr_opq _ _ _ hf hb
 refine ⟨o, h1, ?_⟩
 rw [rep]
 exact ⟨cs.toList, by simp, h2⟩
end
end Go.Proofs.YtmjpbmcbcppkfaaGreatDoor
namespace Go.Proofs.YtmjpbmcbcppkfaaGreatDoor
open Go.RowKit Go.ChangeShapes Go.WideShapes Go.ChangeAt
set_option linter.unusedVariables false
set_option linter.unusedSimpArgs false
set_option maxRecDepth 100000
set_option maxHeartbeats 1500000
theorem walk_VarsNil (W : World) (hL : laidMetH Tryz.prog laidL W) (v : Value) (o : OpQ) (h : o.Ok ∧ rep (env0 W) W (.agg (opQ o)) v) :
    Calls Tryz.prog 5 #[v] W fun e W' => e = .returned (.bool true) ∧ Below W.heap.size W W' :=
 join_val (law_varsnil o h.1) (cargs := [v]) (by simp only [reps]; exact ⟨_, _, rfl, h.2, rfl⟩) (gl_of_laid hL)
end Go.Proofs.YtmjpbmcbcppkfaaGreatDoor
