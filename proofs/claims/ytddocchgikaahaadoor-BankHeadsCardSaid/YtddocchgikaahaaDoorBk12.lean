/- Walks of bank: At, works. Conditions: none. -/
import Derived.Test.YtddocchgikaahaaDoorBk11
namespace Go.Proofs.YtddocchgikaahaaDoor
open Go.RowKit
set_option linter.unusedVariables false
set_option linter.unusedSimpArgs false
set_option maxRecDepth 100000
set_option maxHeartbeats 1500000
theorem at_nil (first count : Int) : Spec Tryd.prog 11 [.val (.pointer none), .val (.int .i64 first), .val (.int .i64 count)] [] (pst (.tup [.val (.pointer none), .val (.int .i64 2)]) []) := by
  refine spec_entry tbOk Tryd.func11 rfl Tryd.ntmps11 Tryd.results11 ?_
  (repeat (first | refine gos (k := ?_) | refine fun (_ : _ = false) => ?_ | refine ⟨fun (_ : true = true) => ?_, fun h => absurd h (by decide)⟩ | refine gtr (k := ?_)))
  exact ⟨_, rfl, rfl⟩
theorem at_vc {W : Int} {n k : Nat} (s : FlS) (a c : Nat) (g : Goes W n k s) (p : Lies n k a c) (hs : (a : Int) + c ≤ (n : Int) / (k : Int)) (v0 v1 : Nat) : Spec Tryd.prog 11 [.ref 0 v0 6 0 0, .val (.int .i64 (a : Int)), .val (.int .i64 (c : Int))] [⟨v0, .obj [.own 1 v1 1 0 s.l.length, .val (.int .i64 (s.k : Int)), .val (.int .i64 s.ar), .val (.int .i64 s.pt), .val (.bool s.dd), .val (.int .i64 s.wr)]⟩, ⟨v1, .bytes s.l⟩]
   (pms (.tup [.ref 45 1 3 0 0, .val (.int .i64 0)]) [⟨v0, .obj [.own 1 v1 1 0 s.l.length, .val (.int .i64 (s.k : Int)), .val (.int .i64 s.ar), .val (.int .i64 s.pt), .val (.bool s.dd), .val (.int .i64 s.wr)]⟩, ⟨v1, .bytes s.l⟩] [(45, ⟨1, .obj [.ref 0 v0 6 0 0, .val (.int .i64 (a : Int)), .val (.int .i64 (c : Int))]⟩)]) := by
  have hb := g.bok p
  have hi := hb.int
  have hl := hb.len
  have hgl := g.l
  have hgk := g.k
  have hkk := g.kk
  have hac := p.ac
  have hc1 := p.c1
  have hbig : (64 : Int) ≤ (c : Int) * s.k := by rw [hgk]; exact_mod_cast p.big
  rw [← hgl, ← hgk] at hs
  refine spec_entry tbOk Tryd.func11 rfl Tryd.ntmps11 Tryd.results11 ?_
  (repeat (first | refine gos (k := ?_) | refine fun (_ : _ = false) => ?_ | refine ⟨fun (_ : true = true) => ?_, fun h => absurd h (by decide)⟩ | refine gtr (k := ?_)))
  have e1 : (decide ((c : Int) < 1) || decide ((a : Int) < 0)) = false := by
    rw [Bool.or_eq_false_iff, decide_eq_false_iff_not, decide_eq_false_iff_not]; omega
  rw [e1]
  refine gcl (k := ?_)
  refine cdet (spec_sectors s (by omega) (by rw [hgk]; exact hkk) v0 v1) Tryd.call32 [0, 1] ?_
  (repeat (first | refine gos (k := ?_) | refine fun (_ : _ = false) => ?_ | refine ⟨fun (_ : true = true) => ?_, fun h => absurd h (by decide)⟩ | refine gtr (k := ?_)))
  have e2 : (false || decide ((s.l.length : Int) / (s.k : Int) < (c : Int))) = false := by
    rw [Bool.false_or, decide_eq_false_iff_not]; omega
  rw [e2]
  refine gcl (k := ?_)
  refine cdet (spec_sectors s (by omega) (by rw [hgk]; exact hkk) v0 v1) Tryd.call32 [0, 1] ?_
  have hX : 0 ≤ (s.l.length : Int) / (s.k : Int) ∧ (s.l.length : Int) / (s.k : Int) ≤ s.l.length := ⟨Int.ediv_nonneg (by omega) (by omega), Int.ediv_le_self _ (by omega)⟩
  (repeat (first | refine gos (k := ?_) | refine fun (_ : _ = false) => ?_ | refine ⟨fun (_ : true = true) => ?_, fun h => absurd h (by decide)⟩ | refine gtr (k := ?_)))
  have e3 : (false || decide ((s.l.length : Int) / (s.k : Int) - (c : Int) < (a : Int))) = false := by
    rw [Bool.false_or, decide_eq_false_iff_not]; omega
  rw [e3]
  refine gcl (k := ?_)
  refine cdet (spec_size s v0 v1) Tryd.call33 [0, 1] ?_
  (repeat (first | refine gos (k := ?_) | refine fun (_ : _ = false) => ?_ | refine ⟨fun (_ : true = true) => ?_, fun h => absurd h (by decide)⟩ | refine gtr (k := ?_)))
  have e4 : (false || decide ((c : Int) * (s.k : Int) < 64)) = false := by
    rw [Bool.false_or, decide_eq_false_iff_not]; omega
  rw [e4]
  (repeat (first | refine gos (k := ?_) | refine fun (_ : _ = false) => ?_ | refine ⟨fun (_ : true = true) => ?_, fun h => absurd h (by decide)⟩ | refine gtr (k := ?_)))
  exact ⟨_, rfl, rfl, rfl, trivial⟩
def FlS.new (x y : Nat) : FlS := ⟨List.replicate (x * y) 255, y, 0, 0, false, 0⟩
theorem spec_new (x y : Nat) (h1 : 1 ≤ x ∧ x ≤ 64) (h2 : 16 ≤ y ∧ y ≤ 65536) : Spec Tryd.prog 10 [.val (.int .i64 x), .val (.int .i64 y)] [] (pms (.tup [.ref 27 1 6 0 0, .val (.int .i64 0)]) [] [(27, ⟨1, .obj [.own 24 2 1 0 (FlS.new x y).l.length, .val (.int .i64 ((FlS.new x y).k : Int)), .val (.int .i64 (FlS.new x y).ar), .val (.int .i64 (FlS.new x y).pt), .val (.bool (FlS.new x y).dd), .val (.int .i64 (FlS.new x y).wr)]⟩), (24, ⟨2, .bytes (FlS.new x y).l⟩)]) := by
  have h := new_vc x y h1 h2
  have e : (FlS.new x y).l.length = x * y := by simp [FlS.new]
  rw [e]
  exact h
theorem Goes.new (x y : Nat) (h1 : 1 ≤ x ∧ x ≤ 64) (h2 : 16 ≤ y ∧ y ≤ 65536) : Goes 0 (x * y) y (FlS.new x y) := by
  have : x * y ≤ 64 * 65536 := Nat.mul_le_mul h1.2 h2.2
  exact ⟨by omega, by omega, by simp [FlS.new, I64], by simp [FlS.new, I64], by simp [FlS.new], by simp [FlS.new], rfl⟩
theorem add_own {W : Int} {n k : Nat} (s : FlS) (a c : Nat) (g : Goes W n k s) (hW : W ≤ 9000000000000000000) (p : Lies n k a c) (key val : List UInt8) (kn vn : Nat) (hkn : kn = key.length) (hvn : vn = val.length) (hkl : key.length ≤ 140737488355328) (hvl : val.length ≤ 140737488355328) (vb v0 v1 v2 v3 : Nat) : Spec Tryd.prog 15 [.ref 0 vb 3 0 0, .own 3 v2 1 0 kn, .own 4 v3 1 0 vn] [⟨vb, .obj [.ref 1 v0 6 0 0, .val (.int .i64 (a : Int)), .val (.int .i64 (c : Int))]⟩, ⟨v0, .obj [.own 2 v1 1 0 s.l.length, .val (.int .i64 (s.k : Int)), .val (.int .i64 s.ar), .val (.int .i64 s.pt), .val (.bool s.dd), .val (.int .i64 s.wr)]⟩, ⟨v1, .bytes s.l⟩, ⟨v2, .bytes key⟩, ⟨v3, .bytes val⟩]
   (pms (.val (.int .i64 (s.add a c key val).1)) [⟨vb, .obj [.ref 1 v0 6 0 0, .val (.int .i64 (a : Int)), .val (.int .i64 (c : Int))]⟩, ⟨v0, .obj [.own 2 v1 1 0 (s.add a c key val).2.l.length, .val (.int .i64 ((s.add a c key val).2.k : Int)), .val (.int .i64 (s.add a c key val).2.ar), .val (.int .i64 (s.add a c key val).2.pt), .val (.bool (s.add a c key val).2.dd), .val (.int .i64 (s.add a c key val).2.wr)]⟩, ⟨v1, .bytes (s.add a c key val).2.l⟩, ⟨v2, .bytes key⟩, ⟨v3, .bytes val⟩] []) := by
  subst hkn hvn
  have e := whole key
  have e' := whole val
  have h := spec_rx (add_vc s a c g hW p ((key.drop 0).take key.length) ((val.drop 0).take val.length) (by rw [e]; exact hkl) (by rw [e']; exact hvl) 0 0 vb v0 v1) (R := [⟨v2, .bytes key⟩, ⟨v3, .bytes val⟩]) (args := [.ref 0 vb 3 0 0, .own 3 v2 1 0 key.length, .own 4 v3 1 0 val.length])
    trivial ⟨⟨trivial, trivial, trivial, trivial⟩, ⟨trivial, trivial, trivial, trivial, trivial, trivial, trivial⟩, trivial, trivial⟩ ⟨⟨(by decide : 1 < 3), trivial, trivial, trivial⟩, ⟨(by decide : 2 < 3), trivial, trivial, trivial, trivial, trivial, trivial⟩, trivial, trivial⟩ ⟨⟨trivial, trivial, trivial, trivial⟩, ⟨trivial, trivial, trivial, trivial, trivial, trivial, trivial⟩, trivial, trivial⟩ rfl trivial trivial
    (asX_cons (aX_same trivial (by decide : 0 < 3)) (asX_cons (aX_own (q := 0) (l := key) rfl (by omega)) (asX_cons (aX_own (q := 1) (l := val) rfl (by omega)) asX_nil)))
  rw [e, e'] at h
  exact h
/-! works -/
def wk1 : FlS := ((FlS.new 1 64).format 0 1 5).2
def wk2 : FlS := (wk1.prog 12 [254]).2
def wk3 : FlS := (wk2.add3 16 [107] [1, 2]).2
theorem ek1 : (FlS.new 1 64).format 0 1 5 = (0, wk1) := by kernel_rfl
theorem ek2 : wk1.prog (((0 : Nat) : Int) * (wk1.k : Int) + 12) [254] = (0, wk2) := by kernel_rfl
theorem es2 : wk2.scan 0 1 = ([], 16, true) := scanG_end (x := wk2.bank 0 1) (a := 16) (fun h => h.2 (by kernel_rfl))
theorem ek3 : wk2.add3 16 [107] [1, 2] = (0, wk3) := by kernel_rfl
theorem es3 : wk3.scan 0 1 = ([⟨[107], [1, 2], true, 16⟩], 31, true) := by
  unfold FlS.scan
  rw [scanG_some (x := wk3.bank 0 1) (a := 16) ⟨Nat.le_of_ble_eq_true (by kernel_rfl), fun h => (by (have h2 : ((wk3.bank 0 1).getD 16 0 == 255) = false := by kernel_rfl); rw [h] at h2; cases h2)⟩ (of_decide_eq_true (by kernel_rfl))]
  rw [scanG_end (x := wk3.bank 0 1) (fun h => h.2 (by kernel_rfl))]
  kernel_rfl
end Go.Proofs.YtddocchgikaahaaDoor
