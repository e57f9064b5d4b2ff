/- Walks of keep: Put. Walks of keep: Open, Get, Used, Room. Conditions: the premises of each law. -/
import Derived.Test.YtmjpbmcbcppkfaaGreatDoorJKh
import Derived.Test.YtmjpbmcbcppkfaaGreatDoorJHv
import Derived.Test.YtmjpbmcbcppkfaaGreatDoorJHk
namespace Go.Proofs.YtmjpbmcbcppkfaaGreatDoor
open Go.RowKit
set_option linter.unusedVariables false
set_option linter.unusedSimpArgs false
set_option maxRecDepth 100000
set_option maxHeartbeats 1500000
def keyV (nm : ByteArray) (g : List UInt8) : List UInt8 := g ++ nm.data.toList
def Tm.nil (t : Tm) : Bool := decide (t.y = 0) && decide (t.m = 0) && decide (t.d = 0) && decide (t.h = 0) && decide (t.mi = 0) && decide (t.s = 0)
def putOk (v : VarV) : Bool := rightN v.nm && (v.t.right || v.t.nil) && decide (v.d.length ≤ 65484)
def catK (a va b vb o vo z : Nat) (d : List UInt8) : Nat → List AV
 | 0 => [.own a va 1 0 4]
 | 1 => [.own b vb 1 0 16]
 | 2 => [.own o vo 1 24 32]
 | 3 => [.bs z d]
 | _ => []
theorem catK_on {P : Nat → Prop} {a va b vb o vo z : Nat} {d : List UInt8} (h1 : P a) (h2 : P b) (h3 : P o) : ∀ i, onAs P (catK a va b vb o vo z d i)
 | 0 => ⟨h1, trivial⟩
 | 1 => ⟨h2, trivial⟩
 | 2 => ⟨h3, trivial⟩
 | 3 => ⟨trivial, trivial⟩
 | _ + 4 => trivial
theorem laid_flat (v : VarV) : laidV v = [leB 4 v.at_, v.t.bytes, v.ow, v.d].flatten := by simp [laidV]
theorem tb_len (t : Tm) : t.bytes.length = 16 := by simp [Tm.bytes, leB_len]
theorem laid_len {v : VarV} (hv : v.Ok) : (laidV v).length = 52 + v.d.length := by
 unfold laidV; simp only [List.length_append, tb_len, leB_len, hv.ow]
theorem varA_ow (x : AV) (v : VarV) (i : Nat) (hi : i < 32) : (varA x v)[24 + i]? = some (.val (bv (v.ow.getD i 0))) := by
 match i, hi with
 | 0, _ => rfl
 | 1, _ => rfl
 | 2, _ => rfl
 | 3, _ => rfl
 | 4, _ => rfl
 | 5, _ => rfl
 | 6, _ => rfl
 | 7, _ => rfl
 | 8, _ => rfl
 | 9, _ => rfl
 | 10, _ => rfl
 | 11, _ => rfl
 | 12, _ => rfl
 | 13, _ => rfl
 | 14, _ => rfl
 | 15, _ => rfl
 | 16, _ => rfl
 | 17, _ => rfl
 | 18, _ => rfl
 | 19, _ => rfl
 | 20, _ => rfl
 | 21, _ => rfl
 | 22, _ => rfl
 | 23, _ => rfl
 | 24, _ => rfl
 | 25, _ => rfl
 | 26, _ => rfl
 | 27, _ => rfl
 | 28, _ => rfl
 | 29, _ => rfl
 | 30, _ => rfl
 | 31, _ => rfl
 | n + 32, h => omega
theorem concatV (v : VarV) (hv : v.Ok) (hl : v.d.length ≤ 100000000) (x : AV) (z w0 w1 w2 w3 : Nat) : Spec Tryz.prog 63 [.own 0 w0 1 0 4] [⟨w0, .row 1 (catK 1 w1 2 w2 3 w3 z v.d) 0 (List.range 4)⟩, ⟨w1, .bytes (leB 4 v.at_)⟩, ⟨w2, .bytes v.t.bytes⟩, ⟨w3, .obj (varA x v)⟩]
    (pms (.own 28 7 1 0 (laidV v).length) [⟨w0, .row 1 (catK 1 w1 2 w2 3 w3 z v.d) 0 (List.range 4)⟩, ⟨w1, .bytes (leB 4 v.at_)⟩, ⟨w2, .bytes v.t.bytes⟩, ⟨w3, .obj (varA x v)⟩] [(28, ⟨7, .bytes (laidV v)⟩)]) := by
 have hlen := laid_len hv
 rw [laid_flat] at hlen ⊢
 refine spec_ro (concat_vc [leB 4 v.at_, v.t.bytes, v.ow, v.d] (by show 4 ≤ 1000; decide) (by rw [hlen]; omega) 0) trivial ⟨trivial, trivial⟩ (rows := [⟨w0, .row 1 (catK 1 w1 2 w2 3 w3 z v.d) 0 (List.range 4)⟩, ⟨w1, .bytes (leB 4 v.at_)⟩, ⟨w2, .bytes v.t.bytes⟩, ⟨w3, .obj (varA x v)⟩]) (args := [.own 0 w0 1 0 4]) (asL_cons (as_sl (l0 := List.range 4) rfl rfl rfl fun i x l hi hli => ?_) asL_nil)
 match i with
 | 0 =>
  cases hi; cases hli
  refine ⟨_, rfl, ?_⟩
  have := as_own (rows := [⟨w0, .row 1 (catK 1 w1 2 w2 3 w3 z v.d) 0 (List.range 4)⟩, ⟨w1, .bytes (leB 4 v.at_)⟩, ⟨w2, .bytes v.t.bytes⟩, ⟨w3, .obj (varA x v)⟩]) (r := 1) (ver := w1) (l := leB 4 v.at_) (off := 0) (n := 4) rfl (by rw [leB_len]; decide)
  rw [List.drop_zero, List.take_of_length_le (by rw [leB_len]; exact Nat.le_refl _)] at this
  exact this
 | 1 =>
  cases hi; cases hli
  refine ⟨_, rfl, ?_⟩
  have := as_own (rows := [⟨w0, .row 1 (catK 1 w1 2 w2 3 w3 z v.d) 0 (List.range 4)⟩, ⟨w1, .bytes (leB 4 v.at_)⟩, ⟨w2, .bytes v.t.bytes⟩, ⟨w3, .obj (varA x v)⟩]) (r := 2) (ver := w2) (l := v.t.bytes) (off := 0) (n := 16) rfl (by rw [tb_len]; decide)
  rw [List.drop_zero, List.take_of_length_le (by rw [tb_len]; exact Nat.le_refl _)] at this
  exact this
 | 2 =>
  cases hi; cases hli
  refine ⟨_, rfl, as_ownobj (cells := varA x v) rfl hv.ow.symm (Nat.le_of_ble_eq_true rfl) fun i y hy => ?_⟩
  have hi := (List.getElem?_eq_some_iff.1 hy).1
  rw [varA_ow x v i (by rw [← hv.ow]; exact hi), List.getD_eq_getElem?_getD, hy]
  rfl
 | 3 => cases hi; cases hli; exact ⟨_, rfl, as_bs⟩
 | i + 4 => simp at hli
theorem put_kv {W : Int} {n k : Nat} (s : FlS) (c : Nat) (go : Goes W n k s) (hW : W ≤ 1000000000000000) (pa : Lies n k 0 c) (pb : Lies n k c c) (hd : s.dd = false) (v : VarV) (hv : v.Ok) (hr : rightN v.nm = true) (ht : v.t.good) (hl : v.d.length ≤ 65484) (z : Nat) (vk vs va vb v0 v1 : Nat) : Spec Tryz.prog 61 [.ref 0 vk 1 0 0, .agg (varA (.bs z v.d) v)] [⟨vk, .obj [.ref 1 vs 3 0 0]⟩, ⟨vs, .obj [.ref 4 v0 6 0 0, .ref 2 va 3 0 0, .ref 3 vb 3 0 0]⟩, ⟨va, .obj [.ref 4 v0 6 0 0, .val (.int .i64 ((0 : Nat) : Int)), .val (.int .i64 (c : Int))]⟩, ⟨vb, .obj [.ref 4 v0 6 0 0, .val (.int .i64 (c : Int)), .val (.int .i64 (c : Int))]⟩, ⟨v0, .obj [.own 5 v1 1 0 s.l.length, .val (.int .i64 (s.k : Int)), .val (.int .i64 s.ar), .val (.int .i64 s.pt), .val (.bool s.dd), .val (.int .i64 s.wr)]⟩, ⟨v1, .bytes s.l⟩]
   (pms (.val (.int .i64 (s.set c (keyV v.nm v.g) (laidV v)).1)) [⟨vk, .obj [.ref 1 vs 3 0 0]⟩, ⟨vs, .obj [.ref 4 v0 6 0 0, .ref 2 va 3 0 0, .ref 3 vb 3 0 0]⟩, ⟨va, .obj [.ref 4 v0 6 0 0, .val (.int .i64 ((0 : Nat) : Int)), .val (.int .i64 (c : Int))]⟩, ⟨vb, .obj [.ref 4 v0 6 0 0, .val (.int .i64 (c : Int)), .val (.int .i64 (c : Int))]⟩, ⟨v0, .obj [.own 5 v1 1 0 (s.set c (keyV v.nm v.g) (laidV v)).2.l.length, .val (.int .i64 ((s.set c (keyV v.nm v.g) (laidV v)).2.k : Int)), .val (.int .i64 (s.set c (keyV v.nm v.g) (laidV v)).2.ar), .val (.int .i64 (s.set c (keyV v.nm v.g) (laidV v)).2.pt), .val (.bool (s.set c (keyV v.nm v.g) (laidV v)).2.dd), .val (.int .i64 (s.set c (keyV v.nm v.g) (laidV v)).2.wr)]⟩, ⟨v1, .bytes (s.set c (keyV v.nm v.g) (laidV v)).2.l⟩] []) := by
 obtain ⟨⟨a1, a2⟩, ⟨b1, b2⟩, ⟨c1, c2⟩, ⟨d1, d2⟩, ⟨e1, e2⟩, f1, f2⟩ := id hv.t
 have hKy := key_vc v.nm hv.nm v.g hv.g hr
 refine spec_entry tbOk Tryz.func61 rfl Tryz.ntmps61 Tryz.results61 ?_
 unfold varA
 refine gg (k := ?_)
 refine cmks (hKy) Tryz.call38 0 [0, 0, 0, 20] [0, 0, 0, 1] [3] ?_
 iterate 14 refine gos (k := ?_)
 rw [show (!decide ((0 : Int) = 0)) = false from rfl]
 refine ggO (k := ?_)
 conv => whnf
 have hTAIL : True := trivial
 rcases ht.2 with hz | hR
 ·have hG : (!eqVs [Value.int .u16 v.t.y, .int .u8 v.t.m, .int .u8 v.t.d, .int .u8 v.t.h, .int .u8 v.t.mi, .int .u8 v.t.s] [Value.int .u16 0, .int .u8 0, .int .u8 0, .int .u8 0, .int .u8 0, .int .u8 0]) = false := by rw [hz]; rfl
  refine And.intro (fun h => absurd (hG.symm.trans h.2) Bool.false_ne_true) (fun h => ?_)
  rw [hG]
  (
 refine ggO (k := ?_)
 rw [decide_eq_false (by omega : ¬ (65484 : Int) < (v.d.length : Int))]
 refine gg (k := ?_)
 refine draw_of (p := 6) tbOk hm [0, 1, 3, 7, 0, 0, 32, 96, 224, 0, 512, 2016, 0, 4096, 0, 16384, 65504, 131040, 262143, 524287] [⟨0, false, false, []⟩, ⟨1, true, false, [39, 40, 41, 42, 43, 44, 45, 46, 47, 48, 49, 50, 51, 52, 53, 54, 55, 4]⟩, ⟨2, true, false, [40, 41, 42, 43, 44, 45, 46, 47, 48, 49, 50, 51, 52, 53, 54, 55, 4]⟩, ⟨3, true, false, [41, 42, 43, 44, 45, 46, 47, 48, 49, 50, 51, 52, 53, 54, 55, 4]⟩, ⟨4, false, false, []⟩, ⟨5, true, false, [37, 38, 39, 40, 41, 43, 44, 45, 46, 47, 48, 49, 50, 51, 52, 53, 54, 55, 4]⟩, ⟨6, true, false, [37, 38, 39, 40, 41, 44, 45, 46, 47, 48, 49, 50, 51, 52, 53, 54, 55, 4]⟩, ⟨7, true, false, [37, 38, 39, 40, 41, 45, 46, 47, 48, 49, 50, 51, 52, 53, 54, 55, 4]⟩, ⟨9, true, false, [37, 38, 39, 40, 41, 42, 43, 44, 45, 47, 48, 49, 50, 51, 52, 53, 54, 55, 4]⟩, ⟨10, true, false, [37, 38, 39, 40, 41, 42, 43, 44, 45, 48, 49, 50, 51, 52, 53, 54, 55, 4]⟩, ⟨12, true, false, [37, 38, 39, 40, 41, 42, 43, 44, 45, 46, 47, 48, 50, 51, 52, 53, 54, 55, 4]⟩, ⟨13, true, false, [37, 38, 39, 40, 41, 42, 43, 44, 45, 46, 47, 48, 51, 52, 53, 54, 55, 4]⟩, ⟨14, true, false, [37, 38, 39, 40, 41, 42, 43, 44, 45, 46, 47, 48, 49, 50, 52, 53, 54, 55, 4]⟩, ⟨15, true, false, [37, 38, 39, 40, 41, 42, 43, 44, 45, 46, 47, 48, 49, 50, 53, 54, 55, 4]⟩, ⟨8, true, false, [37, 38, 39, 40, 41, 46, 47, 48, 49, 50, 51, 52, 53, 54, 55, 4]⟩, ⟨11, true, false, [37, 38, 39, 40, 41, 49, 50, 51, 52, 53, 54, 55, 4]⟩, ⟨16, true, false, [37, 38, 39, 40, 41, 54, 55, 4]⟩, ⟨17, true, false, [37, 38, 39, 40, 41, 55, 4]⟩, ⟨18, true, true, [4]⟩, ⟨19, false, false, []⟩] (by kernel_rfl) ?_
 refine ggO (k := ?_)
 rw [show v.at_ % 18446744073709551616 = v.at_ by have := hv.at_; omega]
 refine cmks (put_nil v.at_ (by have := hv.at_; omega) 4 (by omega)) Tryz.call98 0 [0, 0, 0, 0, 0, 0, 0, 51] [0, 0, 0, 0, 0, 0, 0, 1] [7] ?_
 refine ggO (k := ?_)
 refine cmks (write_raw v.t ht.1) Tryz.call99 (hon := ⟨⟨trivial, trivial, trivial, trivial, trivial, trivial, trivial⟩, trivial⟩) 0 [0, 0, 0, 0, 0, 0, 0, 54] [0, 0, 0, 0, 0, 0, 0, 1] [7] ?_
 refine ggO (k := ?_)
 refine cmksW (concatV v hv (by omega) (.bs z v.d) z 1 6 9 1) Tryz.call63 (hr2 := ⟨catK_on rfl rfl rfl, trivial, trivial, (by unfold varA; exact rowu), trivial⟩) 4 [59, 51, 54, 9, 0, 0, 0, 0, 0, 0, 0, 0, 0, 0, 0, 0, 0, 0, 0, 0, 0, 0, 0, 0, 0, 0, 0, 0, 60] [0, 0, 0, 0, 0, 0, 0, 0, 0, 0, 0, 0, 0, 0, 0, 0, 0, 0, 0, 0, 0, 0, 0, 0, 0, 0, 0, 0, 1] [28] ?_ ?_
 ·refine ⟨⟨catK_on (by decide) (by decide) (by decide), _, rfl, WeakE.row 1 1 rfl⟩, ⟨trivial, _, rfl, WeakE.refl _⟩, ⟨trivial, _, rfl, WeakE.refl _⟩, ⟨(by unfold varA; exact rowu), _, rfl, WeakE.refl _⟩, trivial⟩
 refine ggO (k := ?_)
 conv => whnf
 refine And.intro ⟨.inr ?_, .inr rfl, .inr rfl, .inr rfl, .inl rfl, trivial⟩ ?_
 ·refine congrArg (fun F => some (Ent.mk 1 (Bd.row 1 F 0 (List.range 4)))) (funext fun i => ?_)
  match i with
  | 0 => rfl
  | 1 => rfl
  | 2 => rfl
  | 3 => rfl
  | n + 4 => simp only [Nat.mul_one, takeL, dropL, List.map_cons, List.map_nil, List.nil_append, List.cons_append, List.append_nil, List.length_cons, List.length_nil, Nat.reduceAdd, renAs, catK, dropL_eq, takeL_eq]; exact (congrArg (List.take 1) (List.drop_of_length_le (Nat.le_add_left 4 n))).trans rfl
 refine ggO (k := ?_)
 have hsz : v.nm.size ≤ 64 := by
  have := hr
  unfold rightN at this
  simp only [Bool.and_eq_true, decide_eq_true_eq] at this
  omega
 have hkl : (keyV v.nm v.g).length = 16 + v.nm.size := by unfold keyV; rw [List.length_append, hv.g]; simp
 have hvl := laid_len hv
 refine cmks (set_own s c go hW pa pb hd (keyV v.nm v.g) (laidV v) (16 + v.nm.size) (laidV v).length hkl.symm rfl (by omega) (by omega) vs va vb v0 v1 4 8) Tryz.call97 7 [1, 2, 3, 4, 5, 20, 60] [0, 0, 0, 0, 0, 0, 0] [] ?_
 conv => whnf
 refine And.intro ⟨.inr (fun h => nomatch h), .inr (fun h => nomatch h), .inr (fun h => nomatch h), .inr (fun h => nomatch h), .inr (fun h => nomatch h), .inr (fun h => nomatch h), .inr (fun h => nomatch h), trivial⟩ ?_
 refine ggO (k := ?_)
 exact ⟨_, rfl, rfl, trivial⟩)
 ·have hy : 1900 ≤ v.t.y := by
    have := hR
    unfold Tm.right at this
    simp only [Bool.and_eq_true, decide_eq_true_eq] at this
    omega
  have hG : (!eqVs [Value.int .u16 v.t.y, .int .u8 v.t.m, .int .u8 v.t.d, .int .u8 v.t.h, .int .u8 v.t.mi, .int .u8 v.t.s] [Value.int .u16 0, .int .u8 0, .int .u8 0, .int .u8 0, .int .u8 0, .int .u8 0]) = true := by
   have : decide (v.t.y = 0) = false := decide_eq_false (by omega)
   simp [eqVs, eqV, this]
  refine And.intro (fun h => And.intro ⟨trivial, h, trivial⟩ ?_) (fun h => absurd ⟨rfl, hG⟩ h)
  refine cdet (tright_vc v.t ht.1) Tryz.call96 (hon := ⟨⟨trivial, trivial, trivial, trivial, trivial, trivial, trivial⟩, trivial⟩) [] ?_
  rw [hR, hG]
  (
 refine ggO (k := ?_)
 rw [decide_eq_false (by omega : ¬ (65484 : Int) < (v.d.length : Int))]
 refine gg (k := ?_)
 refine draw_of (p := 6) tbOk hm [0, 1, 3, 7, 0, 0, 32, 96, 224, 0, 512, 2016, 0, 4096, 0, 16384, 65504, 131040, 262143, 524287] [⟨0, false, false, []⟩, ⟨1, true, false, [39, 40, 41, 42, 43, 44, 45, 46, 47, 48, 49, 50, 51, 52, 53, 54, 55, 4]⟩, ⟨2, true, false, [40, 41, 42, 43, 44, 45, 46, 47, 48, 49, 50, 51, 52, 53, 54, 55, 4]⟩, ⟨3, true, false, [41, 42, 43, 44, 45, 46, 47, 48, 49, 50, 51, 52, 53, 54, 55, 4]⟩, ⟨4, false, false, []⟩, ⟨5, true, false, [37, 38, 39, 40, 41, 43, 44, 45, 46, 47, 48, 49, 50, 51, 52, 53, 54, 55, 4]⟩, ⟨6, true, false, [37, 38, 39, 40, 41, 44, 45, 46, 47, 48, 49, 50, 51, 52, 53, 54, 55, 4]⟩, ⟨7, true, false, [37, 38, 39, 40, 41, 45, 46, 47, 48, 49, 50, 51, 52, 53, 54, 55, 4]⟩, ⟨9, true, false, [37, 38, 39, 40, 41, 42, 43, 44, 45, 47, 48, 49, 50, 51, 52, 53, 54, 55, 4]⟩, ⟨10, true, false, [37, 38, 39, 40, 41, 42, 43, 44, 45, 48, 49, 50, 51, 52, 53, 54, 55, 4]⟩, ⟨12, true, false, [37, 38, 39, 40, 41, 42, 43, 44, 45, 46, 47, 48, 50, 51, 52, 53, 54, 55, 4]⟩, ⟨13, true, false, [37, 38, 39, 40, 41, 42, 43, 44, 45, 46, 47, 48, 51, 52, 53, 54, 55, 4]⟩, ⟨14, true, false, [37, 38, 39, 40, 41, 42, 43, 44, 45, 46, 47, 48, 49, 50, 52, 53, 54, 55, 4]⟩, ⟨15, true, false, [37, 38, 39, 40, 41, 42, 43, 44, 45, 46, 47, 48, 49, 50, 53, 54, 55, 4]⟩, ⟨8, true, false, [37, 38, 39, 40, 41, 46, 47, 48, 49, 50, 51, 52, 53, 54, 55, 4]⟩, ⟨11, true, false, [37, 38, 39, 40, 41, 49, 50, 51, 52, 53, 54, 55, 4]⟩, ⟨16, true, false, [37, 38, 39, 40, 41, 54, 55, 4]⟩, ⟨17, true, false, [37, 38, 39, 40, 41, 55, 4]⟩, ⟨18, true, true, [4]⟩, ⟨19, false, false, []⟩] (by kernel_rfl) ?_
 refine ggO (k := ?_)
 rw [show v.at_ % 18446744073709551616 = v.at_ by have := hv.at_; omega]
 refine cmks (put_nil v.at_ (by have := hv.at_; omega) 4 (by omega)) Tryz.call98 0 [0, 0, 0, 0, 0, 0, 0, 51] [0, 0, 0, 0, 0, 0, 0, 1] [7] ?_
 refine ggO (k := ?_)
 refine cmks (write_raw v.t ht.1) Tryz.call99 (hon := ⟨⟨trivial, trivial, trivial, trivial, trivial, trivial, trivial⟩, trivial⟩) 0 [0, 0, 0, 0, 0, 0, 0, 54] [0, 0, 0, 0, 0, 0, 0, 1] [7] ?_
 refine ggO (k := ?_)
 refine cmksW (concatV v hv (by omega) (.bs z v.d) z 1 6 9 1) Tryz.call63 (hr2 := ⟨catK_on rfl rfl rfl, trivial, trivial, (by unfold varA; exact rowu), trivial⟩) 4 [59, 51, 54, 9, 0, 0, 0, 0, 0, 0, 0, 0, 0, 0, 0, 0, 0, 0, 0, 0, 0, 0, 0, 0, 0, 0, 0, 0, 60] [0, 0, 0, 0, 0, 0, 0, 0, 0, 0, 0, 0, 0, 0, 0, 0, 0, 0, 0, 0, 0, 0, 0, 0, 0, 0, 0, 0, 1] [28] ?_ ?_
 ·refine ⟨⟨catK_on (by decide) (by decide) (by decide), _, rfl, WeakE.row 1 1 rfl⟩, ⟨trivial, _, rfl, WeakE.refl _⟩, ⟨trivial, _, rfl, WeakE.refl _⟩, ⟨(by unfold varA; exact rowu), _, rfl, WeakE.refl _⟩, trivial⟩
 refine ggO (k := ?_)
 conv => whnf
 refine And.intro ⟨.inr ?_, .inr rfl, .inr rfl, .inr rfl, .inl rfl, trivial⟩ ?_
 ·refine congrArg (fun F => some (Ent.mk 1 (Bd.row 1 F 0 (List.range 4)))) (funext fun i => ?_)
  match i with
  | 0 => rfl
  | 1 => rfl
  | 2 => rfl
  | 3 => rfl
  | n + 4 => simp only [Nat.mul_one, takeL, dropL, List.map_cons, List.map_nil, List.nil_append, List.cons_append, List.append_nil, List.length_cons, List.length_nil, Nat.reduceAdd, renAs, catK, dropL_eq, takeL_eq]; exact (congrArg (List.take 1) (List.drop_of_length_le (Nat.le_add_left 4 n))).trans rfl
 refine ggO (k := ?_)
 have hsz : v.nm.size ≤ 64 := by
  have := hr
  unfold rightN at this
  simp only [Bool.and_eq_true, decide_eq_true_eq] at this
  omega
 have hkl : (keyV v.nm v.g).length = 16 + v.nm.size := by unfold keyV; rw [List.length_append, hv.g]; simp
 have hvl := laid_len hv
 refine cmks (set_own s c go hW pa pb hd (keyV v.nm v.g) (laidV v) (16 + v.nm.size) (laidV v).length hkl.symm rfl (by omega) (by omega) vs va vb v0 v1 4 8) Tryz.call97 7 [1, 2, 3, 4, 5, 20, 60] [0, 0, 0, 0, 0, 0, 0] [] ?_
 conv => whnf
 refine And.intro ⟨.inr (fun h => nomatch h), .inr (fun h => nomatch h), .inr (fun h => nomatch h), .inr (fun h => nomatch h), .inr (fun h => nomatch h), .inr (fun h => nomatch h), .inr (fun h => nomatch h), trivial⟩ ?_
 refine ggO (k := ?_)
 exact ⟨_, rfl, rfl, trivial⟩)
end Go.Proofs.YtmjpbmcbcppkfaaGreatDoor
namespace Go.Proofs.YtmjpbmcbcppkfaaGreatDoor
open Go.RowKit
set_option linter.unusedVariables false
set_option linter.unusedSimpArgs false
set_option maxRecDepth 100000
set_option maxHeartbeats 1500000
theorem kopen_nil : Spec Tryz.prog 30 [.val (.pointer none)] [] (pms (.tup [.val (.pointer none), .val (.int .i64 2)]) [] []) := by
 refine spec_entry tbOk Tryz.func30 rfl Tryz.ntmps30 Tryz.results30 ?_
 refine gg (k := ?_)
 refine cmks (open_nil) Tryz.call48 0 [] [] [] ?_
 refine gg (k := ?_)
 exact ⟨_, rfl, rfl, trivial⟩
theorem kopen_vc {W : Int} {n k : Nat} (s : FlS) (c : Nat) (go : Goes W n k s) (hW : W ≤ 1000000000000000) (pa : Lies n k 0 c) (pb : Lies n k c c) (hn : n = 2 * c * k) (hd : s.dd = false) (h0 : (s.opn c).1 = 0) (v0 v1 : Nat) : Spec Tryz.prog 30 [.ref 0 v0 6 0 0] [⟨v0, .obj [.own 1 v1 1 0 s.l.length, .val (.int .i64 (s.k : Int)), .val (.int .i64 s.ar), .val (.int .i64 s.pt), .val (.bool s.dd), .val (.int .i64 s.wr)]⟩, ⟨v1, .bytes s.l⟩]
   (pms (.tup [.ref 18 1 1 0 0, .val (.int .i64 0)]) [⟨v0, .obj [.own 1 v1 1 0 (s.opn c).2.l.length, .val (.int .i64 ((s.opn c).2.k : Int)), .val (.int .i64 (s.opn c).2.ar), .val (.int .i64 (s.opn c).2.pt), .val (.bool (s.opn c).2.dd), .val (.int .i64 (s.opn c).2.wr)]⟩, ⟨v1, .bytes (s.opn c).2.l⟩] [(18, ⟨1, .obj [.ref 10 2 3 0 0]⟩), (10, ⟨2, .obj [.ref 0 v0 6 0 0, .ref 11 3 3 0 0, .ref 12 3 3 0 0]⟩), (11, ⟨3, .obj [.ref 0 v0 6 0 0, .val (.int .i64 ((0 : Nat) : Int)), .val (.int .i64 (c : Int))]⟩), (12, ⟨3, .obj [.ref 0 v0 6 0 0, .val (.int .i64 (c : Int)), .val (.int .i64 (c : Int))]⟩)]) := by
 have hop := spec_mono (open_vc s c go hW pa pb hn hd v0 v1) fun X H q => q.1 h0
 refine spec_entry tbOk Tryz.func30 rfl Tryz.ntmps30 Tryz.results30 ?_
 refine gg (k := ?_)
 refine cmks (hop) Tryz.call48 2 [0, 1, 0, 0, 0, 0, 0, 0, 0, 0, 0, 0, 0, 0, 0, 0, 0, 0, 0, 0, 0, 0, 0, 0, 0, 0, 0, 0, 0, 0, 0, 0, 0, 0, 0, 0, 0, 0, 0, 10, 0, 0, 0, 0, 0, 0, 0, 0, 0, 0, 0, 0, 0, 0, 0, 0, 0, 0, 0, 0, 0, 0, 0, 0, 0, 0, 0, 0, 0, 0, 0, 0, 0, 0, 0, 0, 0, 0, 0, 0, 11, 12] [0, 0, 0, 0, 0, 0, 0, 0, 0, 0, 0, 0, 0, 0, 0, 0, 0, 0, 0, 0, 0, 0, 0, 0, 0, 0, 0, 0, 0, 0, 0, 0, 0, 0, 0, 0, 0, 0, 0, 1, 0, 0, 0, 0, 0, 0, 0, 0, 0, 0, 0, 0, 0, 0, 0, 0, 0, 0, 0, 0, 0, 0, 0, 0, 0, 0, 0, 0, 0, 0, 0, 0, 0, 0, 0, 0, 0, 0, 0, 0, 1, 1] [39, 80, 81] ?_
 refine gg (k := ?_)
 exact ⟨_, rfl, rfl, rfl, rfl, rfl, rfl, trivial⟩
theorem get_none {W : Int} {n k : Nat} (s : FlS) (c : Nat) {M : List RK} (m : LK s c M) (g : Goes W n k s) (pa : Lies n k 0 c) (pb : Lies n k c c) (key : List UInt8) (hr : ∀ r ∈ M, r.key ≠ key) (z : Nat) (vs va vb v0 v1 : Nat) : Spec Tryz.prog 39 [.ref 0 vs 3 0 0, .bs z key] [⟨vs, .obj [.ref 3 v0 6 0 0, .ref 1 va 3 0 0, .ref 2 vb 3 0 0]⟩, ⟨va, .obj [.ref 3 v0 6 0 0, .val (.int .i64 ((0 : Nat) : Int)), .val (.int .i64 (c : Int))]⟩, ⟨vb, .obj [.ref 3 v0 6 0 0, .val (.int .i64 (c : Int)), .val (.int .i64 (c : Int))]⟩, ⟨v0, .obj [.own 4 v1 1 0 s.l.length, .val (.int .i64 (s.k : Int)), .val (.int .i64 s.ar), .val (.int .i64 s.pt), .val (.bool s.dd), .val (.int .i64 s.wr)]⟩, ⟨v1, .bytes s.l⟩]
   (pms (.tup [.val (.slice none 0 0), .val (.bool false), .val (.int .i64 0)]) [⟨vs, .obj [.ref 3 v0 6 0 0, .ref 1 va 3 0 0, .ref 2 vb 3 0 0]⟩, ⟨va, .obj [.ref 3 v0 6 0 0, .val (.int .i64 ((0 : Nat) : Int)), .val (.int .i64 (c : Int))]⟩, ⟨vb, .obj [.ref 3 v0 6 0 0, .val (.int .i64 (c : Int)), .val (.int .i64 (c : Int))]⟩, ⟨v0, .obj [.own 4 v1 1 0 s.l.length, .val (.int .i64 (s.k : Int)), .val (.int .i64 s.ar), .val (.int .i64 s.pt), .val (.bool s.dd), .val (.int .i64 s.wr)]⟩, ⟨v1, .bytes s.l⟩] []) := by
 obtain ⟨i, l, e, b, hi, hci, hS, hno, _⟩ := m.look
 rcases hi with rfl | rfl
 ·simp only [Nat.zero_mul] at hS
  exact getN0 s c g pa pb m.live hci hS z key (hno key hr) vs va vb v0 v1
 ·simp only [Nat.one_mul] at hS
  exact getN1 s c g pa pb m.live hci hS z key (hno key hr) vs va vb v0 v1
theorem getm_own {W : Int} {n k : Nat} (s : FlS) (c : Nat) {M : List RK} (m : LK s c M) (g : Goes W n k s) (pa : Lies n k 0 c) (pb : Lies n k c c) (r : RK) (hr : r ∈ M) (kn : Nat) (hkn : kn = r.key.length) (vs va vb v0 v1 v2 : Nat) : Spec Tryz.prog 39 [.ref 0 vs 3 0 0, .own 5 v2 1 0 kn] [⟨vs, .obj [.ref 3 v0 6 0 0, .ref 1 va 3 0 0, .ref 2 vb 3 0 0]⟩, ⟨va, .obj [.ref 3 v0 6 0 0, .val (.int .i64 ((0 : Nat) : Int)), .val (.int .i64 (c : Int))]⟩, ⟨vb, .obj [.ref 3 v0 6 0 0, .val (.int .i64 (c : Int)), .val (.int .i64 (c : Int))]⟩, ⟨v0, .obj [.own 4 v1 1 0 s.l.length, .val (.int .i64 (s.k : Int)), .val (.int .i64 s.ar), .val (.int .i64 s.pt), .val (.bool s.dd), .val (.int .i64 s.wr)]⟩, ⟨v1, .bytes s.l⟩, ⟨v2, .bytes r.key⟩]
   (pms (.tup [.bs 0 r.val, .val (.bool true), .val (.int .i64 0)]) [⟨vs, .obj [.ref 3 v0 6 0 0, .ref 1 va 3 0 0, .ref 2 vb 3 0 0]⟩, ⟨va, .obj [.ref 3 v0 6 0 0, .val (.int .i64 ((0 : Nat) : Int)), .val (.int .i64 (c : Int))]⟩, ⟨vb, .obj [.ref 3 v0 6 0 0, .val (.int .i64 (c : Int)), .val (.int .i64 (c : Int))]⟩, ⟨v0, .obj [.own 4 v1 1 0 s.l.length, .val (.int .i64 (s.k : Int)), .val (.int .i64 s.ar), .val (.int .i64 s.pt), .val (.bool s.dd), .val (.int .i64 s.wr)]⟩, ⟨v1, .bytes s.l⟩, ⟨v2, .bytes r.key⟩] []) := by
 obtain ⟨i, l, e, b, hi, hci, hS, _, hlk⟩ := m.look
 obtain ⟨j, d, hj, hk, hv⟩ := hlk r hr
 have hp := (poolOf_get l j d hj).2
 rw [hv] at hp
 rcases hi with rfl | rfl
 ·simp only [Nat.zero_mul] at hS
  exact spec_frz (getS_own0 s c g pa pb m.live hci hS r.key j d hj hk kn hkn vs va vb v0 v1 v2) (by simp [geM]) (AF.tup (AFL.cons (AF.pl rfl hp (by rw [hv])) (AFL.cons AF.same (AFL.cons AF.same AFL.nil)))) ⟨rfl, BF.same, rfl, BF.same, rfl, BF.same, rfl, BF.same, rfl, BF.same, rfl, BF.same, trivial⟩
 ·simp only [Nat.one_mul] at hS
  exact spec_frz (getS_own1 s c g pa pb m.live hci hS r.key j d hj hk kn hkn vs va vb v0 v1 v2) (by simp [geM]) (AF.tup (AFL.cons (AF.pl rfl hp (by rw [hv])) (AFL.cons AF.same (AFL.cons AF.same AFL.nil)))) ⟨rfl, BF.same, rfl, BF.same, rfl, BF.same, rfl, BF.same, rfl, BF.same, rfl, BF.same, trivial⟩
theorem getn_own {W : Int} {n k : Nat} (s : FlS) (c : Nat) {M : List RK} (m : LK s c M) (g : Goes W n k s) (pa : Lies n k 0 c) (pb : Lies n k c c) (key : List UInt8) (hr : ∀ r ∈ M, r.key ≠ key) (kn : Nat) (hkn : kn = key.length) (vs va vb v0 v1 v2 : Nat) : Spec Tryz.prog 39 [.ref 0 vs 3 0 0, .own 5 v2 1 0 kn] [⟨vs, .obj [.ref 3 v0 6 0 0, .ref 1 va 3 0 0, .ref 2 vb 3 0 0]⟩, ⟨va, .obj [.ref 3 v0 6 0 0, .val (.int .i64 ((0 : Nat) : Int)), .val (.int .i64 (c : Int))]⟩, ⟨vb, .obj [.ref 3 v0 6 0 0, .val (.int .i64 (c : Int)), .val (.int .i64 (c : Int))]⟩, ⟨v0, .obj [.own 4 v1 1 0 s.l.length, .val (.int .i64 (s.k : Int)), .val (.int .i64 s.ar), .val (.int .i64 s.pt), .val (.bool s.dd), .val (.int .i64 s.wr)]⟩, ⟨v1, .bytes s.l⟩, ⟨v2, .bytes key⟩]
   (pms (.tup [.val (.slice none 0 0), .val (.bool false), .val (.int .i64 0)]) [⟨vs, .obj [.ref 3 v0 6 0 0, .ref 1 va 3 0 0, .ref 2 vb 3 0 0]⟩, ⟨va, .obj [.ref 3 v0 6 0 0, .val (.int .i64 ((0 : Nat) : Int)), .val (.int .i64 (c : Int))]⟩, ⟨vb, .obj [.ref 3 v0 6 0 0, .val (.int .i64 (c : Int)), .val (.int .i64 (c : Int))]⟩, ⟨v0, .obj [.own 4 v1 1 0 s.l.length, .val (.int .i64 (s.k : Int)), .val (.int .i64 s.ar), .val (.int .i64 s.pt), .val (.bool s.dd), .val (.int .i64 s.wr)]⟩, ⟨v1, .bytes s.l⟩, ⟨v2, .bytes key⟩] []) := by
 subst hkn
 have e' := whole key
 have h := get_none s c m g pa pb key hr 0 vs va vb v0 v1
 rw [← e'] at h
 have h := spec_rx h (R := [⟨v2, .bytes key⟩]) (args := [.ref 0 vs 3 0 0, .own 5 v2 1 0 key.length])
  ⟨trivial, trivial, trivial, trivial⟩ ⟨⟨trivial, trivial, trivial, trivial⟩, ⟨trivial, trivial, trivial, trivial⟩, ⟨trivial, trivial, trivial, trivial⟩, ⟨trivial, trivial, trivial, trivial, trivial, trivial, trivial⟩, trivial, trivial⟩ ⟨⟨(by decide : 3 < 5), (by decide : 1 < 5), (by decide : 2 < 5), trivial⟩, ⟨(by decide : 3 < 5), trivial, trivial, trivial⟩, ⟨(by decide : 3 < 5), trivial, trivial, trivial⟩, ⟨(by decide : 4 < 5), trivial, trivial, trivial, trivial, trivial, trivial⟩, trivial, trivial⟩ ⟨⟨trivial, trivial, trivial, trivial⟩, ⟨trivial, trivial, trivial, trivial⟩, ⟨trivial, trivial, trivial, trivial⟩, ⟨trivial, trivial, trivial, trivial, trivial, trivial, trivial⟩, trivial, trivial⟩ rfl trivial trivial
  (asX_cons (aX_same trivial (by decide : 0 < 5)) (asX_cons (aX_own (q := 0) (l := key) rfl (by omega)) asX_nil))
 exact h
theorem kget_in {W : Int} {n k : Nat} (s : FlS) (c : Nat) {M : List RK} (m : LK s c M) (go : Goes W n k s) (pa : Lies n k 0 c) (pb : Lies n k c c) (v : VarV) (hv : v.Ok) (hr : rightN v.nm = true) (ht : v.t.good) (hd6 : v.d.length ≤ 1000000) (hm : (⟨keyV v.nm v.g, laidV v, true⟩ : RK) ∈ M) (vk vs va vb v0 v1 : Nat) : Spec Tryz.prog 24 [.ref 0 vk 1 0 0, .val (.string v.nm), .agg (bytesA 16 v.g)] [⟨vk, .obj [.ref 1 vs 3 0 0]⟩, ⟨vs, .obj [.ref 4 v0 6 0 0, .ref 2 va 3 0 0, .ref 3 vb 3 0 0]⟩, ⟨va, .obj [.ref 4 v0 6 0 0, .val (.int .i64 ((0 : Nat) : Int)), .val (.int .i64 (c : Int))]⟩, ⟨vb, .obj [.ref 4 v0 6 0 0, .val (.int .i64 (c : Int)), .val (.int .i64 (c : Int))]⟩, ⟨v0, .obj [.own 5 v1 1 0 s.l.length, .val (.int .i64 (s.k : Int)), .val (.int .i64 s.ar), .val (.int .i64 s.pt), .val (.bool s.dd), .val (.int .i64 s.wr)]⟩, ⟨v1, .bytes s.l⟩]
   (pms (.tup [.agg (varA (.own 54 4 1 0 v.d.length) v), .val (.bool true), .val (.int .i64 0)]) [⟨vk, .obj [.ref 1 vs 3 0 0]⟩, ⟨vs, .obj [.ref 4 v0 6 0 0, .ref 2 va 3 0 0, .ref 3 vb 3 0 0]⟩, ⟨va, .obj [.ref 4 v0 6 0 0, .val (.int .i64 ((0 : Nat) : Int)), .val (.int .i64 (c : Int))]⟩, ⟨vb, .obj [.ref 4 v0 6 0 0, .val (.int .i64 (c : Int)), .val (.int .i64 (c : Int))]⟩, ⟨v0, .obj [.own 5 v1 1 0 s.l.length, .val (.int .i64 (s.k : Int)), .val (.int .i64 s.ar), .val (.int .i64 s.pt), .val (.bool s.dd), .val (.int .i64 s.wr)]⟩, ⟨v1, .bytes s.l⟩] [(54, ⟨4, .bytes v.d⟩)]) := by
 have hKy := key_vc v.nm hv.nm v.g hv.g hr
 have hkl : (keyV v.nm v.g).length = 16 + v.nm.size := by unfold keyV; rw [List.length_append, hv.g]; simp
 have hG := fun v2 => getm_own s c m go pa pb _ hm (16 + v.nm.size) hkl.symm vs va vb v0 v1 v2
 have hRd := read_v v hv hd6 ht 0
 clear m hm
 refine spec_entry tbOk Tryz.func24 rfl Tryz.ntmps24 Tryz.results24 ?_
 refine gg (k := ?_)
 refine cmks (hKy) Tryz.call38 0 [0, 0, 0, 26] [0, 0, 0, 1] [3] ?_
 refine gg (k := ?_)
 refine cmks (hG 4) Tryz.call39 6 [1, 2, 3, 4, 5, 26] [0, 0, 0, 0, 0, 0] [] ?_
 refine gg (k := ?_)
 refine cmks (hRd) Tryz.call40 0 [0, 0, 0, 0, 0, 0, 0, 0, 0, 0, 0, 0, 0, 0, 0, 0, 0, 0, 0, 0, 0, 0, 0, 0, 0, 0, 0, 0, 0, 0, 0, 0, 0, 0, 0, 0, 0, 0, 54] [0, 0, 0, 0, 0, 0, 0, 0, 0, 0, 0, 0, 0, 0, 0, 0, 0, 0, 0, 0, 0, 0, 0, 0, 0, 0, 0, 0, 0, 0, 0, 0, 0, 0, 0, 0, 0, 0, 1] [38] ?_
 unfold varA
 refine gg (k := ?_)
 exact ⟨_, rfl, rfl, rfl, trivial⟩
def varZ : VarV := ⟨ByteArray.empty, List.replicate 16 0, 0, ⟨0, 0, 0, 0, 0, 0⟩, List.replicate 32 0, []⟩
theorem kget_no {W : Int} {n k : Nat} (s : FlS) (c : Nat) {M : List RK} (m : LK s c M) (go : Goes W n k s) (pa : Lies n k 0 c) (pb : Lies n k c c) (nm : ByteArray) (g : List UInt8) (hg : g.length = 16) (hr : rightN nm = true) (hm : ∀ r ∈ M, r.key ≠ keyV nm g) (vk vs va vb v0 v1 : Nat) : Spec Tryz.prog 24 [.ref 0 vk 1 0 0, .val (.string nm), .agg (bytesA 16 g)] [⟨vk, .obj [.ref 1 vs 3 0 0]⟩, ⟨vs, .obj [.ref 4 v0 6 0 0, .ref 2 va 3 0 0, .ref 3 vb 3 0 0]⟩, ⟨va, .obj [.ref 4 v0 6 0 0, .val (.int .i64 ((0 : Nat) : Int)), .val (.int .i64 (c : Int))]⟩, ⟨vb, .obj [.ref 4 v0 6 0 0, .val (.int .i64 (c : Int)), .val (.int .i64 (c : Int))]⟩, ⟨v0, .obj [.own 5 v1 1 0 s.l.length, .val (.int .i64 (s.k : Int)), .val (.int .i64 s.ar), .val (.int .i64 s.pt), .val (.bool s.dd), .val (.int .i64 s.wr)]⟩, ⟨v1, .bytes s.l⟩]
   (pms (.tup [.agg (varA (.val (.slice none 0 0)) varZ), .val (.bool false), .val (.int .i64 0)]) [⟨vk, .obj [.ref 1 vs 3 0 0]⟩, ⟨vs, .obj [.ref 4 v0 6 0 0, .ref 2 va 3 0 0, .ref 3 vb 3 0 0]⟩, ⟨va, .obj [.ref 4 v0 6 0 0, .val (.int .i64 ((0 : Nat) : Int)), .val (.int .i64 (c : Int))]⟩, ⟨vb, .obj [.ref 4 v0 6 0 0, .val (.int .i64 (c : Int)), .val (.int .i64 (c : Int))]⟩, ⟨v0, .obj [.own 5 v1 1 0 s.l.length, .val (.int .i64 (s.k : Int)), .val (.int .i64 s.ar), .val (.int .i64 s.pt), .val (.bool s.dd), .val (.int .i64 s.wr)]⟩, ⟨v1, .bytes s.l⟩] []) := by
 have hz : nm.size ≤ 64 := by
  have := hr
  unfold rightN at this
  simp only [Bool.and_eq_true, decide_eq_true_eq] at this
  omega
 have hKy := key_vc nm (by omega) g hg hr
 have hkl : (keyV nm g).length = 16 + nm.size := by unfold keyV; rw [List.length_append, hg]; simp
 have hG := fun v2 => getn_own s c m go pa pb (keyV nm g) hm (16 + nm.size) hkl.symm vs va vb v0 v1 v2
 clear m hm
 refine spec_entry tbOk Tryz.func24 rfl Tryz.ntmps24 Tryz.results24 ?_
 refine gg (k := ?_)
 refine cmks (hKy) Tryz.call38 0 [0, 0, 0, 26] [0, 0, 0, 1] [3] ?_
 refine gg (k := ?_)
 refine cmks (hG 4) Tryz.call39 6 [1, 2, 3, 4, 5, 26] [0, 0, 0, 0, 0, 0] [] ?_
 refine gg (k := ?_)
 exact ⟨_, rfl, rfl, trivial⟩
end Go.Proofs.YtmjpbmcbcppkfaaGreatDoor
