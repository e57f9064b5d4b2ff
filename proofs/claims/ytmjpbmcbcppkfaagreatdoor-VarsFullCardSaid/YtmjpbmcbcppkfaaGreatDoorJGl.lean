/- Walks of bank: At, works. Walks of lintellaw08: works. The calls of no flash. Walks of lintellaw08: no bank. Conditions: the premises of each law. -/
import Derived.Test.YtmjpbmcbcppkfaaGreatDoorJGk
import Derived.Test.YtmjpbmcbcppkfaaGreatDoorJAw
import Derived.Test.YtmjpbmcbcppkfaaGreatDoorJAc
import Derived.Test.YtmjpbmcbcppkfaaGreatDoorJTb
namespace Go.Proofs.YtmjpbmcbcppkfaaGreatDoor
open Go.RowKit
set_option linter.unusedVariables false
set_option linter.unusedSimpArgs false
set_option maxRecDepth 100000
set_option maxHeartbeats 1500000
theorem at_vc {W : Int} {n k : Nat} (s : FlS) (a c : Nat) (g : Goes W n k s) (p : Lies n k a c) (hs : (a : Int) + c ≤ (n : Int) / (k : Int)) (v0 v1 : Nat) : Spec Tryz.prog 77 [.ref 0 v0 6 0 0, .val (.int .i64 (a : Int)), .val (.int .i64 (c : Int))] [⟨v0, .obj [.own 1 v1 1 0 s.l.length, .val (.int .i64 (s.k : Int)), .val (.int .i64 s.ar), .val (.int .i64 s.pt), .val (.bool s.dd), .val (.int .i64 s.wr)]⟩, ⟨v1, .bytes s.l⟩]
   (pms (.tup [.ref 45 1 3 0 0, .val (.int .i64 0)]) [⟨v0, .obj [.own 1 v1 1 0 s.l.length, .val (.int .i64 (s.k : Int)), .val (.int .i64 s.ar), .val (.int .i64 s.pt), .val (.bool s.dd), .val (.int .i64 s.wr)]⟩, ⟨v1, .bytes s.l⟩] [(45, ⟨1, .obj [.ref 0 v0 6 0 0, .val (.int .i64 (a : Int)), .val (.int .i64 (c : Int))]⟩)]) := by
 have hb := g.bok p
 have hi := hb.int
 have hl := hb.len
 have hgl := g.l
 have hgk := g.k
 have hkk := g.kk
 have hac := p.ac
 have hc1 := p.c1
 have hbig : (64 : Int) ≤ (c : Int) * s.k := by rw [hgk]; exact_mod_cast p.big
 rw [← hgl, ← hgk] at hs
 refine spec_entry tbOk Tryz.func77 rfl Tryz.ntmps77 Tryz.results77 ?_
 refine gg (k := ?_)
 have e1 : (decide ((c : Int) < 1) || decide ((a : Int) < 0)) = false := by
  rw [Bool.or_eq_false_iff, decide_eq_false_iff_not, decide_eq_false_iff_not]; omega
 rw [e1]
 refine gcl (k := ?_)
 refine cdet (spec_sectors s (by omega) (by rw [hgk]; exact hkk) v0 v1) Tryz.call74 [0, 1] ?_
 refine gg (k := ?_)
 have e2 : (false || decide ((s.l.length : Int) / (s.k : Int) < (c : Int))) = false := by
  rw [Bool.false_or, decide_eq_false_iff_not]; omega
 rw [e2]
 refine gcl (k := ?_)
 refine cdet (spec_sectors s (by omega) (by rw [hgk]; exact hkk) v0 v1) Tryz.call74 [0, 1] ?_
 have hX : 0 ≤ (s.l.length : Int) / (s.k : Int) ∧ (s.l.length : Int) / (s.k : Int) ≤ s.l.length := ⟨Int.ediv_nonneg (by omega) (by omega), Int.ediv_le_self _ (by omega)⟩
 refine gg (k := ?_)
 have e3 : (false || decide ((s.l.length : Int) / (s.k : Int) - (c : Int) < (a : Int))) = false := by
  rw [Bool.false_or, decide_eq_false_iff_not]; omega
 rw [e3]
 refine gcl (k := ?_)
 refine cdet (spec_size s v0 v1) Tryz.call75 [0, 1] ?_
 refine gg (k := ?_)
 have e4 : (false || decide ((c : Int) * (s.k : Int) < 64)) = false := by
  rw [Bool.false_or, decide_eq_false_iff_not]; omega
 rw [e4]
 refine gg (k := ?_)
 exact ⟨_, rfl, rfl, rfl, trivial⟩
def FlS.new (x y : Nat) : FlS := ⟨List.replicate (x * y) 255, y, 0, 0, false, 0⟩
theorem spec_new (x y : Nat) (h1 : 1 ≤ x ∧ x ≤ 64) (h2 : 16 ≤ y ∧ y ≤ 65536) : Spec Tryz.prog 20 [.val (.int .i64 x), .val (.int .i64 y)] [] (pms (.tup [.ref 27 1 6 0 0, .val (.int .i64 0)]) [] [(27, ⟨1, .obj [.own 24 2 1 0 (FlS.new x y).l.length, .val (.int .i64 ((FlS.new x y).k : Int)), .val (.int .i64 (FlS.new x y).ar), .val (.int .i64 (FlS.new x y).pt), .val (.bool (FlS.new x y).dd), .val (.int .i64 (FlS.new x y).wr)]⟩), (24, ⟨2, .bytes (FlS.new x y).l⟩)]) := by
 have h := new_vc x y h1 h2
 have e : (FlS.new x y).l.length = x * y := by simp [FlS.new]
 rw [e]
 exact h
theorem Goes.new (x y : Nat) (h1 : 1 ≤ x ∧ x ≤ 64) (h2 : 16 ≤ y ∧ y ≤ 65536) : Goes 0 (x * y) y (FlS.new x y) := by
 have : x * y ≤ 64 * 65536 := Nat.mul_le_mul h1.2 h2.2
 exact ⟨by omega, by omega, by simp [FlS.new, I64], by simp [FlS.new, I64], by simp [FlS.new], by simp [FlS.new], rfl⟩
end Go.Proofs.YtmjpbmcbcppkfaaGreatDoor
namespace Go.Proofs.YtmjpbmcbcppkfaaGreatDoor
open Go.RowKit
set_option linter.unusedVariables false
set_option linter.unusedSimpArgs false
set_option maxRecDepth 100000
set_option maxHeartbeats 1500000
theorem Goes.format {B : Int} {n k : Nat} {s : FlS} (h : Goes B n k s) (a c : Nat) (gen : Int) : Goes (B + c + 12) n k (s.format a c gen).2 := by
 unfold FlS.format
 split
 ·have := (h.wipe a c).prog ((a : Int) * s.k) (headB gen)
  rw [headB_len] at this
  exact this
 ·exact (h.wipe a c).mono (by omega)
theorem Goes.add3 {B : Int} {n k : Nat} {s : FlS} (h : Goes B n k s) (q : Int) (x v : List UInt8) : Goes (B + 1 + (layB x v).length + 1) n k (s.add3 q x v).2 := by
 have h1 := h.prog q [254]
 have h2 := h1.prog (q + 1) (layB x v)
 have h3 := h2.prog q [252]
 unfold FlS.add3
 split
 ·exact h1.mono (by show B + 1 ≤ _; omega)
 ·split
  ·exact h2.mono (by show B + 1 + _ ≤ _; omega)
  ·exact h3
theorem Goes.add {B : Int} {n k : Nat} {s : FlS} (h : Goes B n k s) (a c : Nat) (x v : List UInt8) : Goes (B + 65804) n k (s.add a c x v).2 := by
 unfold FlS.add
 split
 ·exact h.mono (by omega)
 ·rename_i hc
  have hl := layB_len x v
  split
  ·exact h.mono (by omega)
  ·split
   ·exact h.mono (by omega)
   ·split
    ·exact h.mono (by omega)
    ·exact (h.add3 _ x v).mono (by omega)
theorem Goes.kill {B : Int} {n k : Nat} {s : FlS} (h : Goes B n k s) (a c : Nat) (i : Int) : Goes (B + 1) n k (s.kill a c i).2 := by
 unfold FlS.kill
 split
 ·exact h.mono (by omega)
 ·split
  ·exact h.mono (by omega)
  ·exact h.prog _ [248]
end Go.Proofs.YtmjpbmcbcppkfaaGreatDoor
namespace Go.Proofs.YtmjpbmcbcppkfaaGreatDoor
open Go.RowKit
set_option linter.unusedVariables false
set_option linter.unusedSimpArgs false
set_option maxRecDepth 100000
set_option maxHeartbeats 1500000
theorem nil_sectors : Spec Tryz.prog 74 [.val (.pointer none)] [] (pms (.val (.int .i64 0)) [] []) := by
 refine spec_entry tbOk Tryz.func74 rfl Tryz.ntmps74 Tryz.results74 ?_
 refine gg (k := ?_)
 exact ⟨_, rfl, rfl, trivial⟩
end Go.Proofs.YtmjpbmcbcppkfaaGreatDoor
namespace Go.Proofs.YtmjpbmcbcppkfaaGreatDoor
open Go.RowKit
set_option linter.unusedVariables false
set_option linter.unusedSimpArgs false
set_option maxRecDepth 100000
set_option maxHeartbeats 1500000
end Go.Proofs.YtmjpbmcbcppkfaaGreatDoor
