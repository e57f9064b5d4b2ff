/- Walks of bank: At, works. Walks of lintellaw08: works. The calls of no flash. Walks of lintellaw08: no bank. Conditions: the premises of each law. -/
import Derived.Test.YtebilmfljoiaeaaDoorGk
import Derived.Test.YtebilmfljoiaeaaDoorAw
import Derived.Test.YtebilmfljoiaeaaDoorAc
import Derived.Test.YtebilmfljoiaeaaDoorTb
namespace Go.Proofs.YtebilmfljoiaeaaDoor
open Go.RowKit
set_option linter.unusedVariables false
set_option linter.unusedSimpArgs false
set_option maxRecDepth 100000
set_option maxHeartbeats 1500000
theorem at_nil (first count : Int) : Spec Tryd.prog 19 [.val (.pointer none), .val (.int .i64 first), .val (.int .i64 count)] [] (pst (.tup [.val (.pointer none), .val (.int .i64 2)]) []) := by
  refine spec_entry tbOk Tryd.func19 rfl Tryd.ntmps19 Tryd.results19 ?_
  (repeat (first | refine gos (k := ?_) | refine fun (_ : _ = false) => ?_ | refine ⟨fun (_ : true = true) => ?_, fun h => absurd h (by decide)⟩ | refine gtr (k := ?_)))
  exact ⟨_, rfl, rfl⟩
theorem at_vc {W : Int} {n k : Nat} (s : FlS) (a c : Nat) (g : Goes W n k s) (p : Lies n k a c) (hs : (a : Int) + c ≤ (n : Int) / (k : Int)) (v0 v1 : Nat) : Spec Tryd.prog 19 [.ref 0 v0 6 0 0, .val (.int .i64 (a : Int)), .val (.int .i64 (c : Int))] [⟨v0, .obj [.own 1 v1 1 0 s.l.length, .val (.int .i64 (s.k : Int)), .val (.int .i64 s.ar), .val (.int .i64 s.pt), .val (.bool s.dd), .val (.int .i64 s.wr)]⟩, ⟨v1, .bytes s.l⟩]
   (pms (.tup [.ref 45 1 3 0 0, .val (.int .i64 0)]) [⟨v0, .obj [.own 1 v1 1 0 s.l.length, .val (.int .i64 (s.k : Int)), .val (.int .i64 s.ar), .val (.int .i64 s.pt), .val (.bool s.dd), .val (.int .i64 s.wr)]⟩, ⟨v1, .bytes s.l⟩] [(45, ⟨1, .obj [.ref 0 v0 6 0 0, .val (.int .i64 (a : Int)), .val (.int .i64 (c : Int))]⟩)]) := by
  have hb := g.bok p
  have hi := hb.int
  have hl := hb.len
  have hgl := g.l
  have hgk := g.k
  have hkk := g.kk
  have hac := p.ac
  have hc1 := p.c1
  have hbig : (64 : Int) ≤ (c : Int) * s.k := by rw [hgk]; exact_mod_cast p.big
  rw [← hgl, ← hgk] at hs
  refine spec_entry tbOk Tryd.func19 rfl Tryd.ntmps19 Tryd.results19 ?_
  (repeat (first | refine gos (k := ?_) | refine fun (_ : _ = false) => ?_ | refine ⟨fun (_ : true = true) => ?_, fun h => absurd h (by decide)⟩ | refine gtr (k := ?_)))
  have e1 : (decide ((c : Int) < 1) || decide ((a : Int) < 0)) = false := by
    rw [Bool.or_eq_false_iff, decide_eq_false_iff_not, decide_eq_false_iff_not]; omega
  rw [e1]
  refine gcl (k := ?_)
  refine cdet (spec_sectors s (by omega) (by rw [hgk]; exact hkk) v0 v1) Tryd.call16 [0, 1] ?_
  (repeat (first | refine gos (k := ?_) | refine fun (_ : _ = false) => ?_ | refine ⟨fun (_ : true = true) => ?_, fun h => absurd h (by decide)⟩ | refine gtr (k := ?_)))
  have e2 : (false || decide ((s.l.length : Int) / (s.k : Int) < (c : Int))) = false := by
    rw [Bool.false_or, decide_eq_false_iff_not]; omega
  rw [e2]
  refine gcl (k := ?_)
  refine cdet (spec_sectors s (by omega) (by rw [hgk]; exact hkk) v0 v1) Tryd.call16 [0, 1] ?_
  have hX : 0 ≤ (s.l.length : Int) / (s.k : Int) ∧ (s.l.length : Int) / (s.k : Int) ≤ s.l.length := ⟨Int.ediv_nonneg (by omega) (by omega), Int.ediv_le_self _ (by omega)⟩
  (repeat (first | refine gos (k := ?_) | refine fun (_ : _ = false) => ?_ | refine ⟨fun (_ : true = true) => ?_, fun h => absurd h (by decide)⟩ | refine gtr (k := ?_)))
  have e3 : (false || decide ((s.l.length : Int) / (s.k : Int) - (c : Int) < (a : Int))) = false := by
    rw [Bool.false_or, decide_eq_false_iff_not]; omega
  rw [e3]
  refine gcl (k := ?_)
  refine cdet (spec_size s v0 v1) Tryd.call17 [0, 1] ?_
  (repeat (first | refine gos (k := ?_) | refine fun (_ : _ = false) => ?_ | refine ⟨fun (_ : true = true) => ?_, fun h => absurd h (by decide)⟩ | refine gtr (k := ?_)))
  have e4 : (false || decide ((c : Int) * (s.k : Int) < 64)) = false := by
    rw [Bool.false_or, decide_eq_false_iff_not]; omega
  rw [e4]
  (repeat (first | refine gos (k := ?_) | refine fun (_ : _ = false) => ?_ | refine ⟨fun (_ : true = true) => ?_, fun h => absurd h (by decide)⟩ | refine gtr (k := ?_)))
  exact ⟨_, rfl, rfl, rfl, trivial⟩
def FlS.new (x y : Nat) : FlS := ⟨List.replicate (x * y) 255, y, 0, 0, false, 0⟩
theorem spec_new (x y : Nat) (h1 : 1 ≤ x ∧ x ≤ 64) (h2 : 16 ≤ y ∧ y ≤ 65536) : Spec Tryd.prog 5 [.val (.int .i64 x), .val (.int .i64 y)] [] (pms (.tup [.ref 27 1 6 0 0, .val (.int .i64 0)]) [] [(27, ⟨1, .obj [.own 24 2 1 0 (FlS.new x y).l.length, .val (.int .i64 ((FlS.new x y).k : Int)), .val (.int .i64 (FlS.new x y).ar), .val (.int .i64 (FlS.new x y).pt), .val (.bool (FlS.new x y).dd), .val (.int .i64 (FlS.new x y).wr)]⟩), (24, ⟨2, .bytes (FlS.new x y).l⟩)]) := by
  have h := new_vc x y h1 h2
  have e : (FlS.new x y).l.length = x * y := by simp [FlS.new]
  rw [e]
  exact h
theorem Goes.new (x y : Nat) (h1 : 1 ≤ x ∧ x ≤ 64) (h2 : 16 ≤ y ∧ y ≤ 65536) : Goes 0 (x * y) y (FlS.new x y) := by
  have : x * y ≤ 64 * 65536 := Nat.mul_le_mul h1.2 h2.2
  exact ⟨by omega, by omega, by simp [FlS.new, I64], by simp [FlS.new, I64], by simp [FlS.new], by simp [FlS.new], rfl⟩
theorem add_own {W : Int} {n k : Nat} (s : FlS) (a c : Nat) (g : Goes W n k s) (hW : W ≤ 9000000000000000000) (p : Lies n k a c) (key val : List UInt8) (kn vn : Nat) (hkn : kn = key.length) (hvn : vn = val.length) (hkl : key.length ≤ 140737488355328) (hvl : val.length ≤ 140737488355328) (vb v0 v1 v2 v3 : Nat) : Spec Tryd.prog 27 [.ref 0 vb 3 0 0, .own 3 v2 1 0 kn, .own 4 v3 1 0 vn] [⟨vb, .obj [.ref 1 v0 6 0 0, .val (.int .i64 (a : Int)), .val (.int .i64 (c : Int))]⟩, ⟨v0, .obj [.own 2 v1 1 0 s.l.length, .val (.int .i64 (s.k : Int)), .val (.int .i64 s.ar), .val (.int .i64 s.pt), .val (.bool s.dd), .val (.int .i64 s.wr)]⟩, ⟨v1, .bytes s.l⟩, ⟨v2, .bytes key⟩, ⟨v3, .bytes val⟩]
   (pms (.val (.int .i64 (s.add a c key val).1)) [⟨vb, .obj [.ref 1 v0 6 0 0, .val (.int .i64 (a : Int)), .val (.int .i64 (c : Int))]⟩, ⟨v0, .obj [.own 2 v1 1 0 (s.add a c key val).2.l.length, .val (.int .i64 ((s.add a c key val).2.k : Int)), .val (.int .i64 (s.add a c key val).2.ar), .val (.int .i64 (s.add a c key val).2.pt), .val (.bool (s.add a c key val).2.dd), .val (.int .i64 (s.add a c key val).2.wr)]⟩, ⟨v1, .bytes (s.add a c key val).2.l⟩, ⟨v2, .bytes key⟩, ⟨v3, .bytes val⟩] []) := by
  subst hkn hvn
  have e := whole key
  have e' := whole val
  have h := spec_rx (add_vc s a c g hW p ((key.drop 0).take key.length) ((val.drop 0).take val.length) (by rw [e]; exact hkl) (by rw [e']; exact hvl) 0 0 vb v0 v1) (R := [⟨v2, .bytes key⟩, ⟨v3, .bytes val⟩]) (args := [.ref 0 vb 3 0 0, .own 3 v2 1 0 key.length, .own 4 v3 1 0 val.length])
    trivial ⟨⟨trivial, trivial, trivial, trivial⟩, ⟨trivial, trivial, trivial, trivial, trivial, trivial, trivial⟩, trivial, trivial⟩ ⟨⟨(by decide : 1 < 3), trivial, trivial, trivial⟩, ⟨(by decide : 2 < 3), trivial, trivial, trivial, trivial, trivial, trivial⟩, trivial, trivial⟩ ⟨⟨trivial, trivial, trivial, trivial⟩, ⟨trivial, trivial, trivial, trivial, trivial, trivial, trivial⟩, trivial, trivial⟩ rfl trivial trivial
    (asX_cons (aX_same trivial (by decide : 0 < 3)) (asX_cons (aX_own (q := 0) (l := key) rfl (by omega)) (asX_cons (aX_own (q := 1) (l := val) rfl (by omega)) asX_nil)))
  rw [e, e'] at h
  exact h
end Go.Proofs.YtebilmfljoiaeaaDoor
namespace Go.Proofs.YtebilmfljoiaeaaDoor
open Go.RowKit
set_option linter.unusedVariables false
set_option linter.unusedSimpArgs false
set_option maxRecDepth 100000
set_option maxHeartbeats 1500000
theorem Goes.format {B : Int} {n k : Nat} {s : FlS} (h : Goes B n k s) (a c : Nat) (gen : Int) : Goes (B + c + 12) n k (s.format a c gen).2 := by
  unfold FlS.format
  split
  · have := (h.wipe a c).prog ((a : Int) * s.k) (headB gen)
    rw [headB_len] at this
    exact this
  · exact (h.wipe a c).mono (by omega)
theorem Goes.add3 {B : Int} {n k : Nat} {s : FlS} (h : Goes B n k s) (q : Int) (x v : List UInt8) : Goes (B + 1 + (layB x v).length + 1) n k (s.add3 q x v).2 := by
  have h1 := h.prog q [254]
  have h2 := h1.prog (q + 1) (layB x v)
  have h3 := h2.prog q [252]
  unfold FlS.add3
  split
  · exact h1.mono (by show B + 1 ≤ _; omega)
  · split
    · exact h2.mono (by show B + 1 + _ ≤ _; omega)
    · exact h3
theorem Goes.add {B : Int} {n k : Nat} {s : FlS} (h : Goes B n k s) (a c : Nat) (x v : List UInt8) : Goes (B + 65804) n k (s.add a c x v).2 := by
  unfold FlS.add
  split
  · exact h.mono (by omega)
  · rename_i hc
    have hl := layB_len x v
    split
    · exact h.mono (by omega)
    · split
      · exact h.mono (by omega)
      · split
        · exact h.mono (by omega)
        · exact (h.add3 _ x v).mono (by omega)
theorem Goes.kill {B : Int} {n k : Nat} {s : FlS} (h : Goes B n k s) (a c : Nat) (i : Int) : Goes (B + 1) n k (s.kill a c i).2 := by
  unfold FlS.kill
  split
  · exact h.mono (by omega)
  · split
    · exact h.mono (by omega)
    · exact h.prog _ [248]
end Go.Proofs.YtebilmfljoiaeaaDoor
namespace Go.Proofs.YtebilmfljoiaeaaDoor
open Go.RowKit
set_option linter.unusedVariables false
set_option linter.unusedSimpArgs false
set_option maxRecDepth 100000
theorem nil_begin : Spec Tryd.prog 75 [.val (.pointer none)] [] (pms (.val (.int .i64 2)) [] []) := by
  refine spec_entry tbOk Tryd.func75 rfl Tryd.ntmps75 Tryd.results75 ?_
  (repeat (first | refine gos (k := ?_) | refine fun (_ : _ = false) => ?_ | refine ⟨fun (_ : true = true) => ?_, fun h => absurd h (by decide)⟩ | refine gtr (k := ?_)))
  exact ⟨_, rfl, rfl, trivial⟩
theorem nil_sectors : Spec Tryd.prog 16 [.val (.pointer none)] [] (pms (.val (.int .i64 0)) [] []) := by
  refine spec_entry tbOk Tryd.func16 rfl Tryd.ntmps16 Tryd.results16 ?_
  (repeat (first | refine gos (k := ?_) | refine fun (_ : _ = false) => ?_ | refine ⟨fun (_ : true = true) => ?_, fun h => absurd h (by decide)⟩ | refine gtr (k := ?_)))
  exact ⟨_, rfl, rfl, trivial⟩
theorem nil_size : Spec Tryd.prog 17 [.val (.pointer none)] [] (pms (.val (.int .i64 0)) [] []) := by
  refine spec_entry tbOk Tryd.func17 rfl Tryd.ntmps17 Tryd.results17 ?_
  (repeat (first | refine gos (k := ?_) | refine fun (_ : _ = false) => ?_ | refine ⟨fun (_ : true = true) => ?_, fun h => absurd h (by decide)⟩ | refine gtr (k := ?_)))
  exact ⟨_, rfl, rfl, trivial⟩
theorem nil_dead : Spec Tryd.prog 18 [.val (.pointer none)] [] (pms (.val (.bool false)) [] []) := by
  refine spec_entry tbOk Tryd.func18 rfl Tryd.ntmps18 Tryd.results18 ?_
  (repeat (first | refine gos (k := ?_) | refine fun (_ : _ = false) => ?_ | refine ⟨fun (_ : true = true) => ?_, fun h => absurd h (by decide)⟩ | refine gtr (k := ?_)))
  exact ⟨_, rfl, rfl, trivial⟩
theorem nil_read (i n : Int) : Spec Tryd.prog 73 [.val (.pointer none), .val (.int .i64 i), .val (.int .i64 n)] [] (pms (.tup [.val (.slice none 0 0), .val (.int .i64 2)]) [] []) := by
  refine spec_entry tbOk Tryd.func73 rfl Tryd.ntmps73 Tryd.results73 ?_
  (repeat (first | refine gos (k := ?_) | refine fun (_ : _ = false) => ?_ | refine ⟨fun (_ : true = true) => ?_, fun h => absurd h (by decide)⟩ | refine gtr (k := ?_)))
  refine cmks (nil_begin) Tryd.call75 0 [] [] [] ?_
  (repeat (first | refine gos (k := ?_) | refine fun (_ : _ = false) => ?_ | refine ⟨fun (_ : true = true) => ?_, fun h => absurd h (by decide)⟩ | refine gtr (k := ?_)))
  exact ⟨_, rfl, rfl, trivial⟩
theorem nil_erase (i : Int) : Spec Tryd.prog 55 [.val (.pointer none), .val (.int .i64 i)] [] (pms (.val (.int .i64 2)) [] []) := by
  refine spec_entry tbOk Tryd.func55 rfl Tryd.ntmps55 Tryd.results55 ?_
  (repeat (first | refine gos (k := ?_) | refine fun (_ : _ = false) => ?_ | refine ⟨fun (_ : true = true) => ?_, fun h => absurd h (by decide)⟩ | refine gtr (k := ?_)))
  refine cmks (nil_begin) Tryd.call75 0 [] [] [] ?_
  (repeat (first | refine gos (k := ?_) | refine fun (_ : _ = false) => ?_ | refine ⟨fun (_ : true = true) => ?_, fun h => absurd h (by decide)⟩ | refine gtr (k := ?_)))
  exact ⟨_, rfl, rfl, trivial⟩
theorem nil_prog (i : Int) (z : Nat) (m : List UInt8) : Spec Tryd.prog 58 [.val (.pointer none), .val (.int .i64 i), .bs z m] [] (pms (.val (.int .i64 2)) [] []) := by
  refine spec_entry tbOk Tryd.func58 rfl Tryd.ntmps58 Tryd.results58 ?_
  (repeat (first | refine gos (k := ?_) | refine fun (_ : _ = false) => ?_ | refine ⟨fun (_ : true = true) => ?_, fun h => absurd h (by decide)⟩ | refine gtr (k := ?_)))
  refine cmks (nil_begin) Tryd.call75 0 [] [] [] ?_
  (repeat (first | refine gos (k := ?_) | refine fun (_ : _ = false) => ?_ | refine ⟨fun (_ : true = true) => ?_, fun h => absurd h (by decide)⟩ | refine gtr (k := ?_)))
  exact ⟨_, rfl, rfl, trivial⟩
end Go.Proofs.YtebilmfljoiaeaaDoor
namespace Go.Proofs.YtebilmfljoiaeaaDoor
open Go.RowKit
set_option linter.unusedVariables false
set_option linter.unusedSimpArgs false
set_option maxRecDepth 100000
set_option maxHeartbeats 1500000
theorem bnil_format (g : Int) : Spec Tryd.prog 36 [.val (.pointer none), .val (.int .u32 g)] [] (pms (.val (.int .i64 2)) [] []) := by
  refine spec_entry tbOk Tryd.func36 rfl Tryd.ntmps36 Tryd.results36 ?_
  (repeat (first | refine gos (k := ?_) | refine fun (_ : _ = false) => ?_ | refine ⟨fun (_ : true = true) => ?_, fun h => absurd h (by decide)⟩ | refine gtr (k := ?_)))
  exact ⟨_, rfl, rfl, trivial⟩
theorem bnil_ready : Spec Tryd.prog 37 [.val (.pointer none)] [] (pms (.val (.int .i64 2)) [] []) := by
  refine spec_entry tbOk Tryd.func37 rfl Tryd.ntmps37 Tryd.results37 ?_
  (repeat (first | refine gos (k := ?_) | refine fun (_ : _ = false) => ?_ | refine ⟨fun (_ : true = true) => ?_, fun h => absurd h (by decide)⟩ | refine gtr (k := ?_)))
  exact ⟨_, rfl, rfl, trivial⟩
theorem bnil_head : Spec Tryd.prog 35 [.val (.pointer none)] [] (pms (.tup [.val (.int .u32 0), .val (.bool false), .val (.int .i64 2)]) [] []) := by
  refine spec_entry tbOk Tryd.func35 rfl Tryd.ntmps35 Tryd.results35 ?_
  (repeat (first | refine gos (k := ?_) | refine fun (_ : _ = false) => ?_ | refine ⟨fun (_ : true = true) => ?_, fun h => absurd h (by decide)⟩ | refine gtr (k := ?_)))
  exact ⟨_, rfl, rfl, trivial⟩
theorem bnil_scan : Spec Tryd.prog 38 [.val (.pointer none)] [] (pms (.tup [.val (.slice none 0 0), .val (.int .i64 0), .val (.bool false), .val (.int .i64 2)]) [] []) := by
  refine spec_entry tbOk Tryd.func38 rfl Tryd.ntmps38 Tryd.results38 ?_
  (repeat (first | refine gos (k := ?_) | refine fun (_ : _ = false) => ?_ | refine ⟨fun (_ : true = true) => ?_, fun h => absurd h (by decide)⟩ | refine gtr (k := ?_)))
  exact ⟨_, rfl, rfl, trivial⟩
theorem bnil_add (k v : AV) : Spec Tryd.prog 27 [.val (.pointer none), .any, .any] [] (pms (.val (.int .i64 2)) [] []) := by
  refine spec_entry tbOk Tryd.func27 rfl Tryd.ntmps27 Tryd.results27 ?_
  (repeat (first | refine gos (k := ?_) | refine fun (_ : _ = false) => ?_ | refine ⟨fun (_ : true = true) => ?_, fun h => absurd h (by decide)⟩ | refine gtr (k := ?_)))
  exact ⟨_, rfl, rfl, trivial⟩
theorem bnil_kill (i : Int) : Spec Tryd.prog 29 [.val (.pointer none), .val (.int .i64 i)] [] (pms (.val (.int .i64 2)) [] []) := by
  refine spec_entry tbOk Tryd.func29 rfl Tryd.ntmps29 Tryd.results29 ?_
  (repeat (first | refine gos (k := ?_) | refine fun (_ : _ = false) => ?_ | refine ⟨fun (_ : true = true) => ?_, fun h => absurd h (by decide)⟩ | refine gtr (k := ?_)))
  exact ⟨_, rfl, rfl, trivial⟩
theorem bnil_room : Spec Tryd.prog 32 [.val (.pointer none)] [] (pms (.val (.int .i64 0)) [] []) := by
  refine spec_entry tbOk Tryd.func32 rfl Tryd.ntmps32 Tryd.results32 ?_
  (repeat (first | refine gos (k := ?_) | refine fun (_ : _ = false) => ?_ | refine ⟨fun (_ : true = true) => ?_, fun h => absurd h (by decide)⟩ | refine gtr (k := ?_)))
  exact ⟨_, rfl, rfl, trivial⟩
end Go.Proofs.YtebilmfljoiaeaaDoor
