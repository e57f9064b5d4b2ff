/- What is done with variables (lintellaw23.Op), and whether it is too much: walk of lintellaw23.Vast. Walk of lintellaw23: VarsNil. Conditions: the premises of each law. -/
import Derived.Test.YtmjpbmcbcppkfaaGreatDoorJHn
import Derived.Test.YtmjpbmcbcppkfaaGreatDoorJHa
import Derived.Test.YtmjpbmcbcppkfaaGreatDoorJVvc
import Derived.Test.YtmjpbmcbcppkfaaGreatDoorJKk
namespace Go.Proofs.YtmjpbmcbcppkfaaGreatDoor
open Go.RowKit
set_option linter.unusedVariables false
set_option linter.unusedSimpArgs false
set_option maxRecDepth 100000
set_option maxHeartbeats 1500000
structure OpQ where
 K : Int
 nm : ByteArray
 g : List UInt8
 a : Int
 d : List UInt8
 n : Int
def opQ (o : OpQ) : List AV := [.val (.int .i64 o.K), .val (.string o.nm), .val (bv (o.g.getD 0 0)), .val (bv (o.g.getD 1 0)), .val (bv (o.g.getD 2 0)), .val (bv (o.g.getD 3 0)), .val (bv (o.g.getD 4 0)), .val (bv (o.g.getD 5 0)), .val (bv (o.g.getD 6 0)), .val (bv (o.g.getD 7 0)), .val (bv (o.g.getD 8 0)), .val (bv (o.g.getD 9 0)), .val (bv (o.g.getD 10 0)), .val (bv (o.g.getD 11 0)), .val (bv (o.g.getD 12 0)), .val (bv (o.g.getD 13 0)), .val (bv (o.g.getD 14 0)), .val (bv (o.g.getD 15 0)), .val (.int .u32 o.a), .bs 0 o.d, .val (.int .i64 o.n)]
def opQ0 : OpQ := ⟨0, ByteArray.empty, List.replicate 16 0, 0, [], 0⟩
structure OpQ.Ok (o : OpQ) : Prop where
 K : I64 o.K
 nm : o.nm.size ≤ 140737488355328
 g : o.g.length = 16
 a : 0 ≤ o.a ∧ o.a ≤ 4294967295
 d : o.d.length ≤ 140737488355328
 n : I64 o.n
def sumQ : List OpQ → Int
 | [] => 0
 | o :: l => (min (o.d.length : Int) 131072 + min (o.nm.size : Int) 131072) + sumQ l
theorem sumQ_snoc (o : OpQ) : ∀ l, sumQ (l ++ [o]) = sumQ l + (min (o.d.length : Int) 131072 + min (o.nm.size : Int) 131072)
 | [] => by simp [sumQ]
 | x :: l => by simp only [List.cons_append, sumQ, sumQ_snoc o l]; omega
theorem sumQ_nonneg : ∀ l, 0 ≤ sumQ l
 | [] => by simp [sumQ]
 | x :: l => by have := sumQ_nonneg l; simp only [sumQ]; omega
theorem sumQ_take {l : List OpQ} {i : Nat} (h : i < l.length) : sumQ (l.take (i + 1)) = sumQ (l.take i) + (min ((l.getD i opQ0).d.length : Int) 131072 + min ((l.getD i opQ0).nm.size : Int) 131072) := by
 rw [List.take_succ_eq_append_getElem h, sumQ_snoc, List.getD_eq_getElem?_getD, List.getElem?_eq_getElem h]; rfl
theorem sumQ_append (a b : List OpQ) : sumQ (a ++ b) = sumQ a + sumQ b := by
 induction a with
 | nil => simp [sumQ]
 | cons x a ih => simp only [List.cons_append, sumQ, ih]; omega
theorem sumQ_le (l : List OpQ) (i : Nat) : sumQ (l.take i) ≤ sumQ l := by
 have h := sumQ_append (l.take i) (l.drop i)
 rw [List.take_append_drop] at h
 have := sumQ_nonneg (l.drop i)
 omega
def vastQ (l : List OpQ) : Bool := decide (30 < l.length) || decide (65536 < sumQ l)
theorem vast23_vc (z : Nat) (l : List OpQ) : Spec Tryz.prog 13 [.sl z 21 opQ opQ0 l] [] (pms (.val (.bool (vastQ l))) [] []) := by
 refine spec_entry tbOk Tryz.func13 rfl Tryz.ntmps13 Tryz.results13 ?_
 refine gg (k := ?_)
 refine ⟨fun h => ?_, fun h => ?_⟩
 ·refine gg (k := ?_)
  have hb := of_decide_eq_true h
  rw [vastQ, decide_eq_true (by omega : 30 < l.length)]
  exact ⟨_, rfl, rfl, trivial⟩
 have hb := of_decide_eq_false h
 rw [vastQ, decide_eq_false (by omega : ¬ 30 < l.length), Bool.false_or]
 refine gg (k := ?_)
 (refine sts (k := ?_))
 conv => whnf
 refine loop_at (fun i : Nat => i ≤ l.length ∧ sumQ (l.take i) ≤ 65536) (fun i => l.length - i) 0 [2, 3, 4, 8, 9, 10, 11, 12, 13, 14, 15, 16, 17, 18, 19, 20, 21, 22, 23, 24, 25, 26, 27, 28, 29, 30, 31, 32] (fun i => [(3, .val (.int .i64 (sumQ (l.take i)))), (4, .val (.int .i64 i)), (2, .val (.bool false))]) (fun i => []) 0 ⟨Nat.zero_le _, by simp [sumQ]⟩ ?_ ?_ ?_
 ·exact no_implicit_lambda% ten
 ·exact no_implicit_lambda% hen
 ·rintro i v ⟨i1, i2⟩
  have i0 := sumQ_nonneg (l.take i)
  refine glp (k := ?_)
  refine gg (k := ?_)
  refine ⟨fun h => ?_, fun h => ?_⟩
  ·have hlt : i < l.length := by have := of_decide_eq_true h; omega
   have hs := sumQ_take hlt
   have hs0 := sumQ_nonneg (l.take (i + 1))
   refine gg (k := ?_)
   (refine sts (k := ?_))
   refine draw_of (p := 0) tbOk hm [0, 0, 0, 6, 14, 30, 62, 126, 255, 0, 0, 1536, 3584, 7680, 15872, 32256, 65535, 131071] [⟨0, false, false, []⟩, ⟨1, false, false, []⟩, ⟨2, false, false, []⟩, ⟨3, true, false, [14, 18, 19, 20, 21, 22, 23, 24, 25, 26, 27, 28, 29, 30, 3]⟩, ⟨4, true, false, [14, 19, 20, 21, 22, 23, 24, 25, 26, 27, 28, 29, 30, 3]⟩, ⟨5, true, false, [14, 20, 21, 22, 23, 24, 25, 26, 27, 28, 29, 30, 3]⟩, ⟨6, true, false, [14, 21, 22, 23, 24, 25, 26, 27, 28, 29, 30, 3]⟩, ⟨7, false, false, []⟩, ⟨8, false, false, []⟩, ⟨9, false, false, []⟩, ⟨10, false, false, []⟩, ⟨11, true, false, [14, 15, 16, 17, 18, 19, 20, 21, 22, 26, 27, 28, 29, 30, 3]⟩, ⟨12, true, false, [14, 15, 16, 17, 18, 19, 20, 21, 22, 27, 28, 29, 30, 3]⟩, ⟨13, true, false, [14, 15, 16, 17, 18, 19, 20, 21, 22, 28, 29, 30, 3]⟩, ⟨14, true, false, [14, 15, 16, 17, 18, 19, 20, 21, 22, 29, 30, 3]⟩, ⟨15, false, false, []⟩, ⟨16, false, false, []⟩, ⟨17, false, false, []⟩] (by kernel_rfl) ?_
   refine gg (k := ?_)
   simp only [Bool.false_eq_true, if_false, Int.toNat_natCast]
   refine gg (k := ?_)
   simp only [Bool.false_eq_true, if_false, Int.toNat_natCast]
   refine gg (k := ?_)
   have hle := sumQ_le l (i + 1)
   have hsum : sumQ (l.take i) + min ((l.getD i opQ0).d.length : Int) 131072 + min ((l.getD i opQ0).nm.size : Int) 131072 = sumQ (l.take (i + 1)) := by rw [hs]; omega
   rw [hsum]
   refine ⟨fun h => ?_, fun h => ?_⟩
   ·have hb := of_decide_eq_true h
    refine gg (k := ?_)
    rw [decide_eq_true (by omega : 65536 < sumQ l)]
    exact ⟨_, rfl, rfl, trivial⟩
   ·have hb := of_decide_eq_false h
    refine gg (k := ?_)
    refine back_at (i + 1) ⟨hlt, by omega⟩ (by show l.length - (i + 1) < l.length - i; omega) ?_ ?_
    ·exact no_implicit_lambda% ten
    ·exact no_implicit_lambda% hen
  ·refine gg (k := ?_)
   have hi : i = l.length := by have := of_decide_eq_false h; omega
   subst hi
   rw [List.take_length] at i2
   rw [decide_eq_false (by omega : ¬ 65536 < sumQ l)]
   exact ⟨_, rfl, rfl, trivial⟩
theorem opQ_as (rows : List Ent) (o : OpQ) : AsL rows (opQ o) (opQ o) := by
 unfold opQ
 repeat (first | exact asL_nil | refine asL_cons as_val ?_ | refine asL_cons as_bs ?_)
theorem vast23_one (o : OpQ) (f : Nat → List AV) (hf : f 0 = opQ o) (w : Nat) : Spec Tryz.prog 13 [.own 0 w 21 0 1] [⟨w, .row 21 f 0 (List.range 1)⟩] (pms (.val (.bool (vastQ [o]))) [⟨w, .row 21 f 0 (List.range 1)⟩] []) :=
 spec_ro (vast23_vc 0 [o]) trivial trivial (rows := [⟨w, .row 21 f 0 (List.range 1)⟩]) (args := [.own 0 w 21 0 1])
  (asL_cons (as_slG (l0 := List.range 1) rfl rfl rfl fun i x y hx hy => by
   match i with
   | 0 => cases hx; cases hy; rw [hf]; exact opQ_as _ o
   | i + 1 => simp at hy) asL_nil)
theorem opQ_on {P : Nat → Prop} (o : OpQ) : onAs P (opQ o) := by
 unfold opQ
 repeat (first | exact trivial | refine And.intro trivial ?_)
end Go.Proofs.YtmjpbmcbcppkfaaGreatDoor
namespace Go.Proofs.YtmjpbmcbcppkfaaGreatDoor
open Go.RowKit
set_option linter.unusedVariables false
set_option linter.unusedSimpArgs false
set_option maxRecDepth 100000
set_option maxHeartbeats 3000000
theorem vopen_nil : Spec Tryz.prog 14 [.val (.pointer none)] [] (pms (.tup [.val (.pointer none), .val (.int .i64 2)]) [] []) := by
 refine spec_entry tbOk Tryz.func14 rfl Tryz.ntmps14 Tryz.results14 ?_
 refine gg (k := ?_)
 refine cmks (kopen_nil) Tryz.call30 0 [] [] [] ?_
 refine gg (k := ?_)
 exact ⟨_, rfl, rfl, trivial⟩
theorem vmode_nil : Spec Tryz.prog 15 [.val (.pointer none)] [] (pms (.tup [.val (.int .u8 0), .val (.int .i64 2)]) [] []) := by
 refine spec_entry tbOk Tryz.func15 rfl Tryz.ntmps15 Tryz.results15 ?_
 refine gg (k := ?_)
 exact ⟨_, rfl, rfl, trivial⟩
theorem vget_nil (nm : ByteArray) (g : List UInt8) (n : Int) : Spec Tryz.prog 10 [.val (.pointer none), .val (.string nm), .agg (bytesA 16 g), .val (.int .i64 n)] [] (pms (.tup [(.agg (varA (.val (.slice none 0 0)) varZ)), .val (.int .i64 0), .val (.int .i64 2)]) [] []) := by
 refine spec_entry tbOk Tryz.func10 rfl Tryz.ntmps10 Tryz.results10 ?_
 refine gg (k := ?_)
 exact ⟨_, rfl, rfl, trivial⟩
theorem vnext_nil (nm : ByteArray) (g : List UInt8) : Spec Tryz.prog 16 [.val (.pointer none), .val (.string nm), .agg (bytesA 16 g)] [] (pms (.tup [.val (.string ByteArray.empty), .agg (bytesA 16 []), .val (.int .i64 2)]) [] []) := by
 refine spec_entry tbOk Tryz.func16 rfl Tryz.ntmps16 Tryz.results16 ?_
 refine gg (k := ?_)
 exact ⟨_, rfl, rfl, trivial⟩
theorem vset_nil (nm : ByteArray) (g : List UInt8) (a : Int) (d : List UInt8) : Spec Tryz.prog 8 [.val (.pointer none), .val (.string nm), .agg (bytesA 16 g), .val (.int .u32 a), .bs 0 d] [] (pms (.val (.int .i64 2)) [] []) := by
 refine spec_entry tbOk Tryz.func8 rfl Tryz.ntmps8 Tryz.results8 ?_
 refine gg (k := ?_)
 exact ⟨_, rfl, rfl, trivial⟩
theorem vdrop_nil (nm : ByteArray) (g : List UInt8) : Spec Tryz.prog 17 [.val (.pointer none), .val (.string nm), .agg (bytesA 16 g)] [] (pms (.val (.int .i64 2)) [] []) := by
 refine spec_entry tbOk Tryz.func17 rfl Tryz.ntmps17 Tryz.results17 ?_
 refine gg (k := ?_)
 exact ⟨_, rfl, rfl, trivial⟩
theorem vinfo_nil : Spec Tryz.prog 11 [.val (.pointer none)] [] (pms (.tup [.val (.int .i64 0), .val (.int .i64 0), .val (.int .i64 2)]) [] []) := by
 refine spec_entry tbOk Tryz.func11 rfl Tryz.ntmps11 Tryz.results11 ?_
 refine gg (k := ?_)
 exact ⟨_, rfl, rfl, trivial⟩
theorem law_varsnil (o : OpQ) (ho : o.Ok) : Spec Tryz.prog 5 [.agg (opQ o)] [] (pms (.val (.bool true)) [] []) := by
 refine spec_entry tbOk Tryz.func5 rfl Tryz.ntmps5 Tryz.results5 ?_
 refine gg (k := ?_)
 refine cmksW (vast23_one o (fun _ => opQ o) rfl 1) Tryz.call13 (hr2 := ⟨fun _ => opQ_on _, trivial⟩) 1 [21] [0] [] ?_ ?_
 ·refine ⟨⟨fun _ => opQ_on _, _, rfl, WeakE.row 1 21 rfl⟩, trivial⟩
 cases hvast : vastQ [o] with
 | true =>
  refine gg (k := ?_)
  refine cmks (works23_vc) Tryz.call6 0 [] [] [] ?_
  refine gg (k := ?_)
  exact ⟨_, rfl, rfl, trivial⟩
 | false =>
  refine gg (k := ?_)
  refine cmks (vopen_nil) Tryz.call14 0 [] [] [] ?_
  refine gg (k := ?_)
  refine cmks (vmode_nil) Tryz.call15 0 [] [] [] ?_
  refine gg (k := ?_)
  refine cmks (vget_nil o.nm o.g o.n) Tryz.call10 0 [] [] [] ?_
  refine gg (k := ?_)
  refine cmks (vnext_nil o.nm o.g) Tryz.call16 0 [] [] [] ?_
  refine gg (k := ?_)
  refine cmks (vset_nil o.nm o.g o.a o.d) Tryz.call8 0 [] [] [] ?_
  refine gg (k := ?_)
  refine cmks (vdrop_nil o.nm o.g) Tryz.call17 0 [] [] [] ?_
  refine gg (k := ?_)
  refine cmks (vinfo_nil) Tryz.call11 0 [] [] [] ?_
  refine ggO (k := ?_)
  refine cmks (samez_vc) Tryz.call18 0 [] [] [] ?_
  refine ggO (k := ?_)
  refine cmks (works23_vc) Tryz.call6 0 [] [] [] ?_
  refine ggO (k := ?_)
  exact ⟨_, rfl, rfl, trivial⟩
end Go.Proofs.YtmjpbmcbcppkfaaGreatDoor
