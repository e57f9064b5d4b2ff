/- The arguments of the laws of a store; the table that is laid. Walks of lintellaw09: NvramLasts. The law NvramLasts from its arguments. Conditions: the premises of each law. -/
import Derived.Test.YtpbpiehcchannaaGreatDoorJAw
import Derived.Test.YtpbpiehcchannaaGreatDoorJAd
import Derived.Test.YtpbpiehcchannaaGreatDoorJHq
import Derived.Lib.LaidTab
import Derived.LaidMore
import Derived.Test.YtpbpiehcchannaaGreatDoorJNkf1
import Derived.Test.YtpbpiehcchannaaGreatDoorJNkf2
import Derived.Test.YtpbpiehcchannaaGreatDoorJNkf3
import Derived.Test.YtpbpiehcchannaaGreatDoorJNkf4
namespace Go.Proofs.YtpbpiehcchannaaGreatDoor
open Go.RowKit Go.ChangeShapes Go.WideShapes Go.ChangeAt
set_option linter.unusedVariables false
set_option linter.unusedSimpArgs false
set_option maxRecDepth 100000
set_option maxHeartbeats 9000000
section
variable {W : World} {H : Type} {enc : TypeId × Value → H}
theorem oc_opB : OCR Tryz.prog W H enc reachBytes 26 OpBOk (opB 0) := by
 intro fuel cs x h hb
 obtain ⟨xs, n, _, hxe, hl, hxl, hget⟩ := DataW.trod_struct Tryz.underlying26 h
 have hl5 : cs.length = 5 := hl.trans (by kernel_rfl)
 have hxl5 : xs.length = 5 := hxl
 have c3 : Tryz.prog.cellsOf 3 = 1 := by kernel_rfl
 have c23 : Tryz.prog.cellsOf 23 = 1 := by kernel_rfl
 obtain ⟨u0, u1, u2, u3, u4, rfl⟩ : ∃ u0 u1 u2 u3 u4, cs = [u0, u1, u2, u3, u4] := by
  match cs, hl5 with
  | [a, b, c, d, e], _ => exact ⟨a, b, c, d, e, rfl⟩
 obtain ⟨x0, x1, x2, x3, x4, rfl⟩ : ∃ u0 u1 u2 u3 u4, xs = [u0, u1, u2, u3, u4] := by
  match xs, hxl5 with
  | [a, b, c, d, e], _ => exact ⟨a, b, c, d, e, rfl⟩
 have g0 := hget 0 _ rfl
 have g1 := hget 1 _ rfl
 have g2 := hget 2 _ rfl
 have g3 := hget 3 _ rfl
 have g4 := hget 4 _ rfl
 simp only [c3, c23, List.drop_zero, List.drop_succ_cons, List.take_succ_cons, List.take_zero, List.getElem?_cons_zero, List.getElem?_cons_succ] at g0 g1 g2 g3 g4
 subst hxe
 simp only [DataW.weights, Tryz.underlying26, List.map_cons, List.map_nil, DataW.weightsEach, List.mem_append] at hb
 obtain ⟨k0, w0, r0⟩ := oc_int Tryz.underlying3 n _ _ g0
 obtain ⟨k1, w1, r1⟩ := oc_int Tryz.underlying3 n _ _ g1
 obtain ⟨k2, w2, r2⟩ := oc_int Tryz.underlying3 n _ _ g2
 obtain ⟨k3, w3, r3⟩ := ocr_bytes Tryz.underlying23 Tryz.underlying5 (by kernel_rfl) (by kernel_rfl) n _ _ g3 (fun m hm => hb m (by simp [hm]))
 obtain ⟨k4, w4, r4⟩ := ocr_bytes Tryz.underlying23 Tryz.underlying5 (by kernel_rfl) (by kernel_rfl) n _ _ g4 (fun m hm => hb m (by simp [hm]))
 refine ⟨⟨k0, k1, k2, k3, k4⟩, ⟨bounds_i64 w0, bounds_i64 w1, bounds_i64 w2, Nat.le_trans w3 (by decide), Nat.le_trans w4 (by decide)⟩, ?_⟩
 simp only [opB]
 exact reps_append r0 (reps_append r1 (reps_append r2 (reps_append r3 r4)))
theorem open_opsB {r : Reach} {b0 : Nat} {v : Value} {d : DataW H} {p : List MemPlace} (hv : Value.okWide Tryz.prog W r b0 22 v) (h : DataW.Trod enc Tryz.prog W 0 (fun _ => true) true 22 v d p) (hb : ∀ n ∈ d.weights Tryz.prog 22, n ≤ reachBytes) : ∃ l : List OpB, (l.length * 72 ≤ reachBytes ∧ ∀ o ∈ l, OpBOk o) ∧ rep (env0 W) W (.sl 0 5 (opB 0) opB0 l) v := by
 obtain ⟨a, n, c, rfl⟩ := okWide_slice Tryz.underlying22 hv
 obtain ⟨fuel, hf⟩ := h
 have e : Tryz.prog.bytesOf 26 = 72 := by kernel_rfl
 obtain ⟨l, ⟨⟨_, h0⟩, h1⟩, h2⟩ := ocr_slice Tryz.underlying22 (sz := 5) (by kernel_rfl) (by decide) opB0 oc_opB _ _ _ hf hb
 rw [e] at h0
 refine ⟨l, ⟨h0, h1⟩, ?_⟩
 simp only [reps] at h2
 obtain ⟨u, us, h3, h4, h5⟩ := h2
 subst h5
 simp only [Value.cells, List.cons.injEq, and_true] at h3
 rw [h3]; exact h4
end
def crcZ : List Int := [0, 498536548, 997073096, 651767980, 1994146192, 1802195444, 1303535960, 1342533948, 3988292384, 4027552580, 3604390888, 3412177804, 2607071920, 2262029012, 2685067896, 3183342108]
def laidL : List (String × DataW Unit) := [("lintel/crc.table", Rows.laid_lintel_crc_table)]
theorem gCrc : Tryz.prog.globalNamed "lintel/crc.table" = some 1 := by kernel_rfl
theorem tCrc : (Tryz.prog.globals[1]?).map (·.type) = some 262 := by kernel_rfl
theorem crcGl : laidG 1 = some (crcZ.map fun z => Value.int .u32 z) := rfl
theorem gl_of_laid {W : World} (h : laidMetH Tryz.prog laidL W) : Gl (env0 W) W := by
 rw [MakeChecks.laidMetH_plain _ _ _ (by kernel_rfl)] at h
 have hT : Lib.TabIs Tryz.prog W "lintel/crc.table" .u32 crcZ := Lib.tabIs_of_head gCrc tCrc Tryz.underlying262 Tryz.underlying72 (by kernel_rfl) (by kernel_rfl) (show laidMet Tryz.prog (("lintel/crc.table", Lib.tabData .u32 crcZ) :: []) W from h)
 intro g cs hg
 have h1 : g = 1 := by
  unfold laidG at hg
  split at hg
  ·rfl
  ·cases hg
 subst h1
 obtain rfl := Option.some.inj (crcGl.symm.trans hg)
 have hcell : ∀ (j : Nat) (u : Value), (crcZ.map fun z => Value.int .u32 z)[j]? = some u → W.cell? ⟨1, j, none⟩ = some u := fun j u hu => by
  rw [List.getElem?_map] at hu
  obtain ⟨z, hz, rfl⟩ := Option.map_eq_some_iff.1 hu
  obtain ⟨hj, hz'⟩ := List.getElem?_eq_some_iff.1 hz
  rw [hT.cell gCrc j hj, List.getD_eq_getElem?_getD, hz]; rfl
 refine ⟨⟨rfl, ?_⟩, hcell⟩
 have h0 := hcell 0 _ rfl
 unfold World.cell? at h0
 simp only at h0
 cases hb : W.heap[1]? with
 | none => simp [hb] at h0
 | some _ => exact (Array.getElem?_eq_some_iff.1 hb).1
theorem law_lasts (a b : Int) (ha : I64 a) (hb : I64 b) (l : List OpB) (ho : ∀ o ∈ l, OpBOk o) (fs : List FallB) (hfs : ∀ f ∈ fs, FallOk f) : Spec Tryz.prog 5 [.val (.int .i64 a), .val (.int .i64 b), .sl 0 5 (opB 0) opB0 l, .sl 0 2 fallB fall0 fs] [] (pms (.val (.bool true)) [] []) := by
 refine spec_entry tbOk Tryz.func5 rfl Tryz.ntmps5 Tryz.results5 ?_
 refine gg (k := ?_)
 refine cmks (vast9_vc 0 a b l) Tryz.call12 (hon := ⟨trivial, trivial, fun _ => ⟨trivial, trivial, trivial, trivial, trivial, trivial⟩, trivial⟩) 0 [] [] [] ?_
 by_cases hv : vast9B a b l = true
 ·rw [hv]
  refine gg (k := ?_)
  refine ⟨fun _ => ?_, fun h => absurd h (by simp)⟩
  refine gg (k := ?_)
  (
 refine cmks (works9_vc) Tryz.call13 0 [] [] [] ?_
 refine gg (k := ?_)
 exact ⟨_, rfl, rfl, trivial⟩)
 have hv0 : vast9B a b l = false := by simpa using hv
 rw [hv0]
 have hn : l.length ≤ 80 ∧ a ≤ 8 ∧ b ≤ 1024 := by
  unfold vast9B at hv0
  rw [Bool.or_eq_false_iff, decide_eq_false_iff_not] at hv0
  omega
 clear hv hv0
 refine gg (k := ?_)
 by_cases hfl : 200 < fs.length
 ·rw [decide_eq_true (by omega : (200 : Int) < (fs.length : Int))]
  refine gg (k := ?_)
  (
 refine cmks (works9_vc) Tryz.call13 0 [] [] [] ?_
 refine gg (k := ?_)
 exact ⟨_, rfl, rfl, trivial⟩)
 rw [decide_eq_false (by omega : ¬ (200 : Int) < (fs.length : Int))]
 refine gg (k := ?_)
 by_cases hvd : 1 ≤ a ∧ a ≤ 64 ∧ 16 ≤ b ∧ b ≤ 65536
 case neg =>
  refine cmks (newBad_vc a b ha hb hvd) Tryz.call26 0 [] [] [] ?_
  refine gg (k := ?_)
  (
 refine cmks (works9_vc) Tryz.call13 0 [] [] [] ?_
 refine gg (k := ?_)
 exact ⟨_, rfl, rfl, trivial⟩)
 obtain ⟨x, rfl⟩ : ∃ x : Nat, a = (x : Int) := ⟨a.toNat, by omega⟩
 obtain ⟨y, rfl⟩ : ∃ y : Nat, b = (y : Int) := ⟨b.toNat, by omega⟩
 by_cases hbad : x % 2 = 1 ∨ (x / 2) * y < 64
 ·have hN := spec_new x y (by omega) (by omega)
  have g0 : Goes 0 (x * y) y (FlS.new x y) := Goes.new x y (by omega) (by omega)
  have hop := open_arg (FlS.new x y) g0 x rfl hbad 2 3
  generalize FlS.new x y = S at hN hop
  refine cmks (hN) Tryz.call26 0 [0, 0, 0, 0, 0, 0, 0, 0, 0, 0, 0, 0, 0, 0, 0, 0, 0, 0, 0, 0, 0, 0, 0, 0, 37, 0, 0, 36] [0, 0, 0, 0, 0, 0, 0, 0, 0, 0, 0, 0, 0, 0, 0, 0, 0, 0, 0, 0, 0, 0, 0, 0, 1, 0, 0, 1] [27, 24] ?_
  refine gg (k := ?_)
  refine cmks (hop) Tryz.call17 2 [36, 37] [0, 0] [] ?_
  refine gg (k := ?_)
  (
 refine cmks (works9_vc) Tryz.call13 0 [] [] [] ?_
 refine gg (k := ?_)
 exact ⟨_, rfl, rfl, trivial⟩)
 obtain ⟨c, rfl⟩ : ∃ c, x = 2 * c := ⟨x / 2, by omega⟩
 have hbig : 64 ≤ c * y := by
  have : 2 * c / 2 = c := by omega
  rw [this] at hbad; omega
 have hc1 : 1 ≤ c := by
  rcases Nat.eq_zero_or_pos c with q | q
  ·rw [q] at hbig; omega
  ·exact q
 have la : Lies (2 * c * y) y 0 c := lies0 hc1 (by omega) hbig
 have lb : Lies (2 * c * y) y c c := liesC hc1 (by omega) hbig
 obtain ⟨s1, o1, sm1⟩ := SM.new (c := c) (k := y) (by omega) (by omega) hbig
 have sn1 : SN s1 c y (6 * 0) [] := sm1.sn fun r hr => by cases hr
 have cm1 : Calm s1 := by
  obtain ⟨G, M, hNM, _⟩ := sm1.ex
  obtain ⟨i, g, l, m, O, hng, _⟩ := hNM
  exact ⟨hng.bi.dd, hng.har⟩
 have g0 : Goes 0 (2 * c * y) y (FlS.new (2 * c) y) := Goes.new (2 * c) y (by omega) (by omega)
 have hN := spec_new (2 * c) y (by omega) (by omega)
 have hop := spec_mono (open_vc (FlS.new (2 * c) y) c g0 (by decide) la lb rfl rfl 2 3) fun X H q => q.1 (by rw [o1])
 rw [o1] at hop
 generalize FlS.new (2 * c) y = S at hN hop
 have hrm := sroom_vc s1 c sm1.go la 2 3 3 2 3
 have hroom : (c : Int) * (s1.k : Int) - 16 = ((c * y - 16 : Nat) : Int) := by
  rw [sm1.go.k]
  have : (c : Int) * (y : Int) = ((c * y : Nat) : Int) := by simp
  omega
 rw [hroom] at hrm
 refine cmks (hN) Tryz.call26 0 [0, 0, 0, 0, 0, 0, 0, 0, 0, 0, 0, 0, 0, 0, 0, 0, 0, 0, 0, 0, 0, 0, 0, 0, 37, 0, 0, 36] [0, 0, 0, 0, 0, 0, 0, 0, 0, 0, 0, 0, 0, 0, 0, 0, 0, 0, 0, 0, 0, 0, 0, 0, 1, 0, 0, 1] [27, 24] ?_
 refine gg (k := ?_)
 refine cmks (hop) Tryz.call17 2 [36, 37, 0, 0, 0, 0, 0, 0, 0, 0, 0, 0, 0, 0, 0, 0, 0, 0, 0, 0, 0, 0, 0, 0, 0, 0, 0, 0, 0, 0, 0, 0, 0, 0, 0, 0, 0, 0, 0, 44, 0, 0, 0, 0, 0, 0, 0, 0, 0, 0, 0, 0, 0, 0, 0, 0, 0, 0, 0, 0, 0, 0, 0, 0, 0, 0, 0, 0, 0, 0, 0, 0, 0, 0, 0, 0, 0, 0, 0, 0, 45, 46] [0, 0, 0, 0, 0, 0, 0, 0, 0, 0, 0, 0, 0, 0, 0, 0, 0, 0, 0, 0, 0, 0, 0, 0, 0, 0, 0, 0, 0, 0, 0, 0, 0, 0, 0, 0, 0, 0, 0, 1, 0, 0, 0, 0, 0, 0, 0, 0, 0, 0, 0, 0, 0, 0, 0, 0, 0, 0, 0, 0, 0, 0, 0, 0, 0, 0, 0, 0, 0, 0, 0, 0, 0, 0, 0, 0, 0, 0, 0, 0, 1, 1] [39, 80, 81] ?_
 refine gg (k := ?_)
 refine cmks (hrm) Tryz.call27 5 [44, 45, 46, 36, 37] [0, 0, 0, 0, 0] [] ?_
 refine gg (k := ?_)
 (refine sts (k := ?_))
 conv => whnf
 refine loop_le (leS_row 56 ⟨1, .obj [.sl 0 1 (fun k : List UInt8 => [AV.bs 0 k]) [] (ksR []), .sl 0 1 (fun k : List UInt8 => [AV.bs 0 k]) [] (vsR []), .val (.int .i64 ((c * y - 16 : Nat) : Int))]⟩ rfl (weak_map 1 _)) ?_
 refine loop_le (s' := ⟨lastsT c y l fs, lastsH c y s1⟩) (leS_of ?_ ?_) ?_
 ·unfold lastsT
  exact no_implicit_lambda% ten
 ·unfold lastsH
  exact no_implicit_lambda% hen
 refine loop_at (fun z : LL => lastsInv c y l z) (fun z => l.length - z.i) 0 lastsS lastsTS (lastsHS c y) ⟨0, 0, s1, [], 2, 3, 3, 1⟩ ⟨Nat.zero_le _, Nat.zero_le _, sn1, cm1⟩ ?_ ?_ ?_
 ·unfold lastsT lastsS lastsTS
  exact no_implicit_lambda% ten
 ·unfold lastsH lastsS lastsHS
  exact no_implicit_lambda% hen
 ·rintro ⟨i, kk, s, R, vs, va, vb, vm⟩ v hx
  obtain ⟨i1, i2, hSN, hcm⟩ := id hx
  simp only at i1 i2 hSN hcm
  by_cases hlt : i < l.length
  ·have hoi : OpBOk (l.getD i opB0) := by rw [List.getD_eq_getElem?_getD, List.getElem?_eq_getElem hlt]; exact ho _ (List.getElem_mem hlt)
   by_cases k2 : (l.getD i opB0).K = 2
   ·by_cases hkf : kk < fs.length
    ·exact lasts_b1 c y l fs hfs hn.1 (by omega) ⟨hc1, by omega⟩ (by omega) hbig la lb s1 _ i kk s R vs va vb vm v hx hlt hoi k2 hkf
    ·exact lasts_b2 c y l fs hfs hn.1 (by omega) ⟨hc1, by omega⟩ (by omega) hbig la lb s1 _ i kk s R vs va vb vm v hx hlt hoi k2 hkf
   by_cases k3 : (l.getD i opB0).K = 3
   ·by_cases hkf : kk < fs.length
    ·exact lasts_b3 c y l fs hfs hn.1 (by omega) ⟨hc1, by omega⟩ (by omega) hbig la lb s1 _ i kk s R vs va vb vm v hx hlt hoi k3 hkf
    ·exact lasts_b4 c y l fs hfs hn.1 (by omega) ⟨hc1, by omega⟩ (by omega) hbig la lb s1 _ i kk s R vs va vb vm v hx hlt hoi k3 hkf
   have hti : l.getD i opB0 = l.getD (i : Int).toNat opB0 := by rw [Int.toNat_natCast]
   rw [hti] at hoi k2 k3
   clear hti
   unfold lastsT lastsH lastsS lastsTS lastsHS
   refine glp (k := ?_)
   refine gg (k := ?_)
   generalize l.getD (i : Int).toNat opB0 = o at hoi k2 k3 ⊢
   rw [decide_eq_false k2, decide_eq_false k3]
   refine gg (k := ?_)
   refine back_at ⟨i + 1, kk, s, R, vs, va, vb, vm⟩ ⟨hlt, by show kk ≤ 5 * (i + 1); omega, hSN.mono (by show 6 * i ≤ 6 * (i + 1); omega), hcm⟩ (by show l.length - (i + 1) < l.length - i; omega) ?_ ?_
   ·exact no_implicit_lambda% ten
   ·exact no_implicit_lambda% hen
  ·unfold lastsT lastsH lastsS lastsTS lastsHS
   refine glp (k := ?_)
   refine gg (k := ?_)
   (
 refine cmks (works9_vc) Tryz.call13 0 [] [] [] ?_
 refine gg (k := ?_)
 exact ⟨_, rfl, rfl, trivial⟩)
theorem bounds_u16 {n : Int} (h : (Lit.int .u16 n).wf = true) : 0 ≤ n ∧ n ≤ 65535 := by
 simpa [Lit.wf, IntKind.min, IntKind.max, IntKind.signed, IntKind.bits] using h
section
variable {W : World} {H : Type} {enc : TypeId × Value → H}
theorem oc_fall : OCR Tryz.prog W H enc reachBytes 59 FallOk fallB := by
 intro fuel cs x h hb
 obtain ⟨xs, n, _, hxe, hl, hxl, hget⟩ := DataW.trod_struct Tryz.underlying59 h
 have hl5 : cs.length = 2 := hl.trans (by kernel_rfl)
 have hxl5 : xs.length = 2 := hxl
 have c3 : Tryz.prog.cellsOf 57 = 1 := by kernel_rfl
 obtain ⟨u0, u1, rfl⟩ : ∃ u0 u1, cs = [u0, u1] := by
  match cs, hl5 with
  | [a, b], _ => exact ⟨a, b, rfl⟩
 obtain ⟨x0, x1, rfl⟩ : ∃ u0 u1, xs = [u0, u1] := by
  match xs, hxl5 with
  | [a, b], _ => exact ⟨a, b, rfl⟩
 have g0 := hget 0 _ rfl
 have g1 := hget 1 _ rfl
 simp only [c3, List.drop_zero, List.drop_succ_cons, List.take_succ_cons, List.take_zero, List.getElem?_cons_zero, List.getElem?_cons_succ] at g0 g1
 obtain ⟨k0, w0, r0⟩ := oc_int Tryz.underlying57 n _ _ g0
 obtain ⟨k1, w1, r1⟩ := oc_int Tryz.underlying57 n _ _ g1
 refine ⟨⟨k0, k1⟩, ⟨bounds_u16 w0, bounds_u16 w1⟩, ?_⟩
 simp only [fallB]
 exact reps_append r0 r1
theorem open_falls {r : Reach} {b0 : Nat} {v : Value} {d : DataW H} {p : List MemPlace} (hv : Value.okWide Tryz.prog W r b0 55 v) (h : DataW.Trod enc Tryz.prog W 0 (fun _ => true) true 55 v d p) (hb : ∀ n ∈ d.weights Tryz.prog 55, n ≤ reachBytes) : ∃ l : List FallB, (∀ o ∈ l, FallOk o) ∧ rep (env0 W) W (.sl 0 2 fallB fall0 l) v := by
 obtain ⟨a, n, c, rfl⟩ := okWide_slice Tryz.underlying55 hv
 obtain ⟨fuel, hf⟩ := h
 obtain ⟨l, ⟨⟨_, h0⟩, h1⟩, h2⟩ := ocr_slice Tryz.underlying55 (sz := 2) (by kernel_rfl) (by decide) fall0 oc_fall _ _ _ hf hb
 refine ⟨l, h1, ?_⟩
 simp only [reps] at h2
 obtain ⟨u, us, h3, h4, h5⟩ := h2
 subst h5
 simp only [Value.cells, List.cons.injEq, and_true] at h3
 rw [h3]; exact h4
end
theorem walk_NvramLasts (W : World) (hL : laidMetH Tryz.prog laidL W) (a : Int) (wa : (Lit.int .i64 a).wf = true) (b : Int) (wb : (Lit.int .i64 b).wf = true) (v : Value) (l : List OpB) (h : (l.length * 72 ≤ reachBytes ∧ ∀ o ∈ l, OpBOk o) ∧ rep (env0 W) W (.sl 0 5 (opB 0) opB0 l) v) (v1 : Value) (fs : List FallB) (h1 : (∀ o ∈ fs, FallOk o) ∧ rep (env0 W) W (.sl 0 2 fallB fall0 fs) v1) :
    Calls Tryz.prog 5 #[.int .i64 a, .int .i64 b, v, v1] W fun e W' => e = .returned (.bool true) ∧ Below W.heap.size W W' :=
 join_val (law_lasts a b (bounds_i64 wa) (bounds_i64 wb) l h.1.2 fs h1.1) (cargs := [.int .i64 a, .int .i64 b, v, v1]) (by simp only [reps, rep, Value.cells]; exact ⟨_, _, rfl, rfl, _, _, rfl, rfl, _, _, rfl, h.2, _, _, rfl, h1.2, rfl⟩) (gl_of_laid hL)
end Go.Proofs.YtpbpiehcchannaaGreatDoor
