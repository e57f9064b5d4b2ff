/- Walks of bank: At, works. Walks of lintellaw08: works. The calls of no flash. Walks of lintellaw08: no bank. Walks of lintellaw08: vast; the law of no bank. Conditions: the premises of each law. -/
import Derived.Test.YtddocchgikaahaaDoorGk
import Derived.Test.YtddocchgikaahaaDoorAw
import Derived.Test.YtddocchgikaahaaDoorAc
import Derived.Test.YtddocchgikaahaaDoorTb
namespace Go.Proofs.YtddocchgikaahaaDoor
open Go.RowKit
set_option linter.unusedVariables false
set_option linter.unusedSimpArgs false
set_option maxRecDepth 100000
set_option maxHeartbeats 1500000
theorem at_nil (first count : Int) : Spec Tryd.prog 11 [.val (.pointer none), .val (.int .i64 first), .val (.int .i64 count)] [] (pst (.tup [.val (.pointer none), .val (.int .i64 2)]) []) := by
  refine spec_entry tbOk Tryd.func11 rfl Tryd.ntmps11 Tryd.results11 ?_
  (repeat (first | refine gos (k := ?_) | refine fun (_ : _ = false) => ?_ | refine ⟨fun (_ : true = true) => ?_, fun h => absurd h (by decide)⟩ | refine gtr (k := ?_)))
  exact ⟨_, rfl, rfl⟩
theorem at_vc {W : Int} {n k : Nat} (s : FlS) (a c : Nat) (g : Goes W n k s) (p : Lies n k a c) (hs : (a : Int) + c ≤ (n : Int) / (k : Int)) (v0 v1 : Nat) : Spec Tryd.prog 11 [.ref 0 v0 6 0 0, .val (.int .i64 (a : Int)), .val (.int .i64 (c : Int))] [⟨v0, .obj [.own 1 v1 1 0 s.l.length, .val (.int .i64 (s.k : Int)), .val (.int .i64 s.ar), .val (.int .i64 s.pt), .val (.bool s.dd), .val (.int .i64 s.wr)]⟩, ⟨v1, .bytes s.l⟩]
   (pms (.tup [.ref 45 1 3 0 0, .val (.int .i64 0)]) [⟨v0, .obj [.own 1 v1 1 0 s.l.length, .val (.int .i64 (s.k : Int)), .val (.int .i64 s.ar), .val (.int .i64 s.pt), .val (.bool s.dd), .val (.int .i64 s.wr)]⟩, ⟨v1, .bytes s.l⟩] [(45, ⟨1, .obj [.ref 0 v0 6 0 0, .val (.int .i64 (a : Int)), .val (.int .i64 (c : Int))]⟩)]) := by
  have hb := g.bok p
  have hi := hb.int
  have hl := hb.len
  have hgl := g.l
  have hgk := g.k
  have hkk := g.kk
  have hac := p.ac
  have hc1 := p.c1
  have hbig : (64 : Int) ≤ (c : Int) * s.k := by rw [hgk]; exact_mod_cast p.big
  rw [← hgl, ← hgk] at hs
  refine spec_entry tbOk Tryd.func11 rfl Tryd.ntmps11 Tryd.results11 ?_
  (repeat (first | refine gos (k := ?_) | refine fun (_ : _ = false) => ?_ | refine ⟨fun (_ : true = true) => ?_, fun h => absurd h (by decide)⟩ | refine gtr (k := ?_)))
  have e1 : (decide ((c : Int) < 1) || decide ((a : Int) < 0)) = false := by
    rw [Bool.or_eq_false_iff, decide_eq_false_iff_not, decide_eq_false_iff_not]; omega
  rw [e1]
  refine gcl (k := ?_)
  refine cdet (spec_sectors s (by omega) (by rw [hgk]; exact hkk) v0 v1) Tryd.call32 [0, 1] ?_
  (repeat (first | refine gos (k := ?_) | refine fun (_ : _ = false) => ?_ | refine ⟨fun (_ : true = true) => ?_, fun h => absurd h (by decide)⟩ | refine gtr (k := ?_)))
  have e2 : (false || decide ((s.l.length : Int) / (s.k : Int) < (c : Int))) = false := by
    rw [Bool.false_or, decide_eq_false_iff_not]; omega
  rw [e2]
  refine gcl (k := ?_)
  refine cdet (spec_sectors s (by omega) (by rw [hgk]; exact hkk) v0 v1) Tryd.call32 [0, 1] ?_
  have hX : 0 ≤ (s.l.length : Int) / (s.k : Int) ∧ (s.l.length : Int) / (s.k : Int) ≤ s.l.length := ⟨Int.ediv_nonneg (by omega) (by omega), Int.ediv_le_self _ (by omega)⟩
  (repeat (first | refine gos (k := ?_) | refine fun (_ : _ = false) => ?_ | refine ⟨fun (_ : true = true) => ?_, fun h => absurd h (by decide)⟩ | refine gtr (k := ?_)))
  have e3 : (false || decide ((s.l.length : Int) / (s.k : Int) - (c : Int) < (a : Int))) = false := by
    rw [Bool.false_or, decide_eq_false_iff_not]; omega
  rw [e3]
  refine gcl (k := ?_)
  refine cdet (spec_size s v0 v1) Tryd.call33 [0, 1] ?_
  (repeat (first | refine gos (k := ?_) | refine fun (_ : _ = false) => ?_ | refine ⟨fun (_ : true = true) => ?_, fun h => absurd h (by decide)⟩ | refine gtr (k := ?_)))
  have e4 : (false || decide ((c : Int) * (s.k : Int) < 64)) = false := by
    rw [Bool.false_or, decide_eq_false_iff_not]; omega
  rw [e4]
  (repeat (first | refine gos (k := ?_) | refine fun (_ : _ = false) => ?_ | refine ⟨fun (_ : true = true) => ?_, fun h => absurd h (by decide)⟩ | refine gtr (k := ?_)))
  exact ⟨_, rfl, rfl, rfl, trivial⟩
def FlS.new (x y : Nat) : FlS := ⟨List.replicate (x * y) 255, y, 0, 0, false, 0⟩
theorem spec_new (x y : Nat) (h1 : 1 ≤ x ∧ x ≤ 64) (h2 : 16 ≤ y ∧ y ≤ 65536) : Spec Tryd.prog 10 [.val (.int .i64 x), .val (.int .i64 y)] [] (pms (.tup [.ref 27 1 6 0 0, .val (.int .i64 0)]) [] [(27, ⟨1, .obj [.own 24 2 1 0 (FlS.new x y).l.length, .val (.int .i64 ((FlS.new x y).k : Int)), .val (.int .i64 (FlS.new x y).ar), .val (.int .i64 (FlS.new x y).pt), .val (.bool (FlS.new x y).dd), .val (.int .i64 (FlS.new x y).wr)]⟩), (24, ⟨2, .bytes (FlS.new x y).l⟩)]) := by
  have h := new_vc x y h1 h2
  have e : (FlS.new x y).l.length = x * y := by simp [FlS.new]
  rw [e]
  exact h
theorem Goes.new (x y : Nat) (h1 : 1 ≤ x ∧ x ≤ 64) (h2 : 16 ≤ y ∧ y ≤ 65536) : Goes 0 (x * y) y (FlS.new x y) := by
  have : x * y ≤ 64 * 65536 := Nat.mul_le_mul h1.2 h2.2
  exact ⟨by omega, by omega, by simp [FlS.new, I64], by simp [FlS.new, I64], by simp [FlS.new], by simp [FlS.new], rfl⟩
theorem add_own {W : Int} {n k : Nat} (s : FlS) (a c : Nat) (g : Goes W n k s) (hW : W ≤ 9000000000000000000) (p : Lies n k a c) (key val : List UInt8) (kn vn : Nat) (hkn : kn = key.length) (hvn : vn = val.length) (hkl : key.length ≤ 140737488355328) (hvl : val.length ≤ 140737488355328) (vb v0 v1 v2 v3 : Nat) : Spec Tryd.prog 15 [.ref 0 vb 3 0 0, .own 3 v2 1 0 kn, .own 4 v3 1 0 vn] [⟨vb, .obj [.ref 1 v0 6 0 0, .val (.int .i64 (a : Int)), .val (.int .i64 (c : Int))]⟩, ⟨v0, .obj [.own 2 v1 1 0 s.l.length, .val (.int .i64 (s.k : Int)), .val (.int .i64 s.ar), .val (.int .i64 s.pt), .val (.bool s.dd), .val (.int .i64 s.wr)]⟩, ⟨v1, .bytes s.l⟩, ⟨v2, .bytes key⟩, ⟨v3, .bytes val⟩]
   (pms (.val (.int .i64 (s.add a c key val).1)) [⟨vb, .obj [.ref 1 v0 6 0 0, .val (.int .i64 (a : Int)), .val (.int .i64 (c : Int))]⟩, ⟨v0, .obj [.own 2 v1 1 0 (s.add a c key val).2.l.length, .val (.int .i64 ((s.add a c key val).2.k : Int)), .val (.int .i64 (s.add a c key val).2.ar), .val (.int .i64 (s.add a c key val).2.pt), .val (.bool (s.add a c key val).2.dd), .val (.int .i64 (s.add a c key val).2.wr)]⟩, ⟨v1, .bytes (s.add a c key val).2.l⟩, ⟨v2, .bytes key⟩, ⟨v3, .bytes val⟩] []) := by
  subst hkn hvn
  have e := whole key
  have e' := whole val
  have h := spec_rx (add_vc s a c g hW p ((key.drop 0).take key.length) ((val.drop 0).take val.length) (by rw [e]; exact hkl) (by rw [e']; exact hvl) 0 0 vb v0 v1) (R := [⟨v2, .bytes key⟩, ⟨v3, .bytes val⟩]) (args := [.ref 0 vb 3 0 0, .own 3 v2 1 0 key.length, .own 4 v3 1 0 val.length])
    trivial ⟨⟨trivial, trivial, trivial, trivial⟩, ⟨trivial, trivial, trivial, trivial, trivial, trivial, trivial⟩, trivial, trivial⟩ ⟨⟨(by decide : 1 < 3), trivial, trivial, trivial⟩, ⟨(by decide : 2 < 3), trivial, trivial, trivial, trivial, trivial, trivial⟩, trivial, trivial⟩ ⟨⟨trivial, trivial, trivial, trivial⟩, ⟨trivial, trivial, trivial, trivial, trivial, trivial, trivial⟩, trivial, trivial⟩ rfl trivial trivial
    (asX_cons (aX_same trivial (by decide : 0 < 3)) (asX_cons (aX_own (q := 0) (l := key) rfl (by omega)) (asX_cons (aX_own (q := 1) (l := val) rfl (by omega)) asX_nil)))
  rw [e, e'] at h
  exact h
/-! works -/
def wk1 : FlS := ((FlS.new 1 64).format 0 1 5).2
def wk2 : FlS := (wk1.prog 12 [254]).2
def wk3 : FlS := (wk2.add3 16 [107] [1, 2]).2
theorem ek1 : (FlS.new 1 64).format 0 1 5 = (0, wk1) := by kernel_rfl
theorem ek2 : wk1.prog (((0 : Nat) : Int) * (wk1.k : Int) + 12) [254] = (0, wk2) := by kernel_rfl
theorem es2 : wk2.scan 0 1 = ([], 16, true) := scanG_end (x := wk2.bank 0 1) (a := 16) (fun h => h.2 (by kernel_rfl))
theorem ek3 : wk2.add3 16 [107] [1, 2] = (0, wk3) := by kernel_rfl
theorem es3 : wk3.scan 0 1 = ([⟨[107], [1, 2], true, 16⟩], 31, true) := by
  unfold FlS.scan
  rw [scanG_some (x := wk3.bank 0 1) (a := 16) ⟨Nat.le_of_ble_eq_true (by kernel_rfl), fun h => (by (have h2 : ((wk3.bank 0 1).getD 16 0 == 255) = false := by kernel_rfl); rw [h] at h2; cases h2)⟩ (of_decide_eq_true (by kernel_rfl))]
  rw [scanG_end (x := wk3.bank 0 1) (fun h => h.2 (by kernel_rfl))]
  kernel_rfl
end Go.Proofs.YtddocchgikaahaaDoor
namespace Go.Proofs.YtddocchgikaahaaDoor
open Go.RowKit
set_option linter.unusedVariables false
set_option linter.unusedSimpArgs false
set_option maxRecDepth 100000
set_option maxHeartbeats 1500000
theorem Goes.format {B : Int} {n k : Nat} {s : FlS} (h : Goes B n k s) (a c : Nat) (gen : Int) : Goes (B + c + 12) n k (s.format a c gen).2 := by
  unfold FlS.format
  split
  · have := (h.wipe a c).prog ((a : Int) * s.k) (headB gen)
    rw [headB_len] at this
    exact this
  · exact (h.wipe a c).mono (by omega)
theorem Goes.add3 {B : Int} {n k : Nat} {s : FlS} (h : Goes B n k s) (q : Int) (x v : List UInt8) : Goes (B + 1 + (layB x v).length + 1) n k (s.add3 q x v).2 := by
  have h1 := h.prog q [254]
  have h2 := h1.prog (q + 1) (layB x v)
  have h3 := h2.prog q [252]
  unfold FlS.add3
  split
  · exact h1.mono (by show B + 1 ≤ _; omega)
  · split
    · exact h2.mono (by show B + 1 + _ ≤ _; omega)
    · exact h3
theorem Goes.add {B : Int} {n k : Nat} {s : FlS} (h : Goes B n k s) (a c : Nat) (x v : List UInt8) : Goes (B + 65804) n k (s.add a c x v).2 := by
  unfold FlS.add
  split
  · exact h.mono (by omega)
  · rename_i hc
    have hl := layB_len x v
    split
    · exact h.mono (by omega)
    · split
      · exact h.mono (by omega)
      · split
        · exact h.mono (by omega)
        · exact (h.add3 _ x v).mono (by omega)
theorem Goes.kill {B : Int} {n k : Nat} {s : FlS} (h : Goes B n k s) (a c : Nat) (i : Int) : Goes (B + 1) n k (s.kill a c i).2 := by
  unfold FlS.kill
  split
  · exact h.mono (by omega)
  · split
    · exact h.mono (by omega)
    · exact h.prog _ [248]
theorem ea3 : wk2.add 0 1 [107] [1, 2] = (0, wk3) := by
  unfold FlS.add
  rw [es2]
  have hd : wk2.dd = false := by kernel_rfl
  have hk : (wk2.k : Int) = 64 := by kernel_rfl
  rw [hd, hk]
  exact ek3
theorem gk0 : Goes 0 64 64 (FlS.new 1 64) := Goes.new 1 64 (by decide) (by decide)
theorem gk1 : Goes 13 64 64 wk1 := gk0.format 0 1 5
theorem gk2 : Goes 14 64 64 wk2 := gk1.prog 12 [254]
theorem gk3 : Goes 65818 64 64 wk3 := by have := gk2.add 0 1 [107] [1, 2]; rw [ea3] at this; exact this
theorem lk : Lies 64 64 0 1 := ⟨by decide, by decide, by decide, by decide⟩
theorem works_vc : Spec Tryd.prog 9 [] [] (pms (.val (.bool true)) [] []) := by
  refine spec_entry tbOk Tryd.func9 rfl Tryd.ntmps9 Tryd.results9 ?_
  (repeat (first | refine gos (k := ?_) | refine fun (_ : _ = false) => ?_ | refine ⟨fun (_ : true = true) => ?_, fun h => absurd h (by decide)⟩ | refine gtr (k := ?_)))
  refine cmks (spec_new 1 64 (by decide) (by decide)) Tryd.call10 0 [0, 0, 0, 0, 0, 0, 0, 0, 0, 0, 0, 0, 0, 0, 0, 0, 0, 0, 0, 0, 0, 0, 0, 0, 13, 0, 0, 12] [0, 0, 0, 0, 0, 0, 0, 0, 0, 0, 0, 0, 0, 0, 0, 0, 0, 0, 0, 0, 0, 0, 0, 0, 1, 0, 0, 1] [27, 24] ?_
  (repeat (first | refine gos (k := ?_) | refine fun (_ : _ = false) => ?_ | refine ⟨fun (_ : true = true) => ?_, fun h => absurd h (by decide)⟩ | refine gtr (k := ?_)))
  refine cmks (at_vc (FlS.new 1 64) 0 1 gk0 lk (by decide) 2 3) Tryd.call11 2 [12, 13, 0, 0, 0, 0, 0, 0, 0, 0, 0, 0, 0, 0, 0, 0, 0, 0, 0, 0, 0, 0, 0, 0, 0, 0, 0, 0, 0, 0, 0, 0, 0, 0, 0, 0, 0, 0, 0, 0, 0, 0, 0, 0, 0, 19] [0, 0, 0, 0, 0, 0, 0, 0, 0, 0, 0, 0, 0, 0, 0, 0, 0, 0, 0, 0, 0, 0, 0, 0, 0, 0, 0, 0, 0, 0, 0, 0, 0, 0, 0, 0, 0, 0, 0, 0, 0, 0, 0, 0, 0, 1] [45] ?_
  (repeat (first | refine gos (k := ?_) | refine fun (_ : _ = false) => ?_ | refine ⟨fun (_ : true = true) => ?_, fun h => absurd h (by decide)⟩ | refine gtr (k := ?_)))
  refine gcl (k := ?_)
  refine cdet (room_vc (FlS.new 1 64) 0 1 (gk0.bok lk) 2 2 3) Tryd.call14 [19, 12, 13] ?_
  rw [show ((1 : Nat) : Int) * ((FlS.new 1 64).k : Int) - 16 = 48 from rfl]
  (repeat (first | refine gos (k := ?_) | refine fun (_ : _ = false) => ?_ | refine ⟨fun (_ : true = true) => ?_, fun h => absurd h (by decide)⟩ | refine gtr (k := ?_)))
  refine gcl (k := ?_)
  refine cdet (need_vc 1 2 (by decide) (by decide)) Tryd.call17 [] ?_
  (repeat (first | refine gos (k := ?_) | refine fun (_ : _ = false) => ?_ | refine ⟨fun (_ : true = true) => ?_, fun h => absurd h (by decide)⟩ | refine gtr (k := ?_)))
  refine cmks (format_vc (FlS.new 1 64) 0 1 gk0 (by decide) lk 5 (by decide) 2 2 3) Tryd.call12 3 [19, 12, 13] [0, 0, 0] [] ?_
  rw [ek1]
  (repeat (first | refine gos (k := ?_) | refine fun (_ : _ = false) => ?_ | refine ⟨fun (_ : true = true) => ?_, fun h => absurd h (by decide)⟩ | refine gtr (k := ?_)))
  refine cmks (ready_vc wk1 0 1 gk1 (by decide) lk 2 2 3) Tryd.call13 3 [19, 12, 13] [0, 0, 0] [] ?_
  rw [ek2]
  (repeat (first | refine gos (k := ?_) | refine fun (_ : _ = false) => ?_ | refine ⟨fun (_ : true = true) => ?_, fun h => absurd h (by decide)⟩ | refine gtr (k := ?_)))
  refine cmks (add_own wk2 0 1 gk2 (by decide) lk [107] [1, 2] 1 2 rfl rfl (by decide) (by decide) 2 2 3 1 1) Tryd.call15 5 [19, 12, 13, 42, 44] [0, 0, 0, 0, 0] [] ?_
  rw [ea3]
  (repeat (first | refine gos (k := ?_) | refine fun (_ : _ = false) => ?_ | refine ⟨fun (_ : true = true) => ?_, fun h => absurd h (by decide)⟩ | refine gtr (k := ?_)))
  refine cmks (Scan_live wk3 0 1 gk3 lk (by kernel_rfl) 1 (by rw [es3]; rfl) 2 2 3) Tryd.call30 (he := ⟨fun _ => ⟨rfl, rfl, trivial, trivial⟩, trivial, trivial⟩) 3 [19, 12, 13, 0, 0, 0, 0, 0, 0, 0, 0, 0, 0, 48, 49] [0, 0, 0, 0, 0, 0, 0, 0, 0, 0, 0, 0, 0, 1, 1] [13, 14] ?_
  rw [es3]
  (repeat (first | refine gos (k := ?_) | refine fun (_ : _ = false) => ?_ | refine ⟨fun (_ : true = true) => ?_, fun h => absurd h (by decide)⟩ | refine gtr (k := ?_)))
  exact ⟨_, rfl, rfl, trivial⟩
end Go.Proofs.YtddocchgikaahaaDoor
namespace Go.Proofs.YtddocchgikaahaaDoor
open Go.RowKit
set_option linter.unusedVariables false
set_option linter.unusedSimpArgs false
set_option maxRecDepth 100000
theorem nil_begin : Spec Tryd.prog 45 [.val (.pointer none)] [] (pms (.val (.int .i64 2)) [] []) := by
  refine spec_entry tbOk Tryd.func45 rfl Tryd.ntmps45 Tryd.results45 ?_
  (repeat (first | refine gos (k := ?_) | refine fun (_ : _ = false) => ?_ | refine ⟨fun (_ : true = true) => ?_, fun h => absurd h (by decide)⟩ | refine gtr (k := ?_)))
  exact ⟨_, rfl, rfl, trivial⟩
theorem nil_sectors : Spec Tryd.prog 32 [.val (.pointer none)] [] (pms (.val (.int .i64 0)) [] []) := by
  refine spec_entry tbOk Tryd.func32 rfl Tryd.ntmps32 Tryd.results32 ?_
  (repeat (first | refine gos (k := ?_) | refine fun (_ : _ = false) => ?_ | refine ⟨fun (_ : true = true) => ?_, fun h => absurd h (by decide)⟩ | refine gtr (k := ?_)))
  exact ⟨_, rfl, rfl, trivial⟩
theorem nil_size : Spec Tryd.prog 33 [.val (.pointer none)] [] (pms (.val (.int .i64 0)) [] []) := by
  refine spec_entry tbOk Tryd.func33 rfl Tryd.ntmps33 Tryd.results33 ?_
  (repeat (first | refine gos (k := ?_) | refine fun (_ : _ = false) => ?_ | refine ⟨fun (_ : true = true) => ?_, fun h => absurd h (by decide)⟩ | refine gtr (k := ?_)))
  exact ⟨_, rfl, rfl, trivial⟩
theorem nil_image : Spec Tryd.prog 21 [.val (.pointer none)] [] (pms (.val (.slice none 0 0)) [] []) := by
  refine spec_entry tbOk Tryd.func21 rfl Tryd.ntmps21 Tryd.results21 ?_
  (repeat (first | refine gos (k := ?_) | refine fun (_ : _ = false) => ?_ | refine ⟨fun (_ : true = true) => ?_, fun h => absurd h (by decide)⟩ | refine gtr (k := ?_)))
  exact ⟨_, rfl, rfl, trivial⟩
theorem nil_dead : Spec Tryd.prog 29 [.val (.pointer none)] [] (pms (.val (.bool false)) [] []) := by
  refine spec_entry tbOk Tryd.func29 rfl Tryd.ntmps29 Tryd.results29 ?_
  (repeat (first | refine gos (k := ?_) | refine fun (_ : _ = false) => ?_ | refine ⟨fun (_ : true = true) => ?_, fun h => absurd h (by decide)⟩ | refine gtr (k := ?_)))
  exact ⟨_, rfl, rfl, trivial⟩
theorem nil_on : Spec Tryd.prog 25 [.val (.pointer none)] [] (pms (.val (.int .i64 2)) [] []) := by
  refine spec_entry tbOk Tryd.func25 rfl Tryd.ntmps25 Tryd.results25 ?_
  (repeat (first | refine gos (k := ?_) | refine fun (_ : _ = false) => ?_ | refine ⟨fun (_ : true = true) => ?_, fun h => absurd h (by decide)⟩ | refine gtr (k := ?_)))
  exact ⟨_, rfl, rfl, trivial⟩
theorem nil_read (i n : Int) : Spec Tryd.prog 57 [.val (.pointer none), .val (.int .i64 i), .val (.int .i64 n)] [] (pms (.tup [.val (.slice none 0 0), .val (.int .i64 2)]) [] []) := by
  refine spec_entry tbOk Tryd.func57 rfl Tryd.ntmps57 Tryd.results57 ?_
  (repeat (first | refine gos (k := ?_) | refine fun (_ : _ = false) => ?_ | refine ⟨fun (_ : true = true) => ?_, fun h => absurd h (by decide)⟩ | refine gtr (k := ?_)))
  refine cmks (nil_begin) Tryd.call45 0 [] [] [] ?_
  (repeat (first | refine gos (k := ?_) | refine fun (_ : _ = false) => ?_ | refine ⟨fun (_ : true = true) => ?_, fun h => absurd h (by decide)⟩ | refine gtr (k := ?_)))
  exact ⟨_, rfl, rfl, trivial⟩
theorem nil_arm (i n : Int) : Spec Tryd.prog 24 [.val (.pointer none), .val (.int .i64 i), .val (.int .i64 n)] [] (pms (.val (.int .i64 2)) [] []) := by
  refine spec_entry tbOk Tryd.func24 rfl Tryd.ntmps24 Tryd.results24 ?_
  (repeat (first | refine gos (k := ?_) | refine fun (_ : _ = false) => ?_ | refine ⟨fun (_ : true = true) => ?_, fun h => absurd h (by decide)⟩ | refine gtr (k := ?_)))
  refine cmks (nil_begin) Tryd.call45 0 [] [] [] ?_
  (repeat (first | refine gos (k := ?_) | refine fun (_ : _ = false) => ?_ | refine ⟨fun (_ : true = true) => ?_, fun h => absurd h (by decide)⟩ | refine gtr (k := ?_)))
  exact ⟨_, rfl, rfl, trivial⟩
theorem nil_erase (i : Int) : Spec Tryd.prog 34 [.val (.pointer none), .val (.int .i64 i)] [] (pms (.val (.int .i64 2)) [] []) := by
  refine spec_entry tbOk Tryd.func34 rfl Tryd.ntmps34 Tryd.results34 ?_
  (repeat (first | refine gos (k := ?_) | refine fun (_ : _ = false) => ?_ | refine ⟨fun (_ : true = true) => ?_, fun h => absurd h (by decide)⟩ | refine gtr (k := ?_)))
  refine cmks (nil_begin) Tryd.call45 0 [] [] [] ?_
  (repeat (first | refine gos (k := ?_) | refine fun (_ : _ = false) => ?_ | refine ⟨fun (_ : true = true) => ?_, fun h => absurd h (by decide)⟩ | refine gtr (k := ?_)))
  exact ⟨_, rfl, rfl, trivial⟩
theorem nil_prog (i : Int) (z : Nat) (m : List UInt8) : Spec Tryd.prog 46 [.val (.pointer none), .val (.int .i64 i), .bs z m] [] (pms (.val (.int .i64 2)) [] []) := by
  refine spec_entry tbOk Tryd.func46 rfl Tryd.ntmps46 Tryd.results46 ?_
  (repeat (first | refine gos (k := ?_) | refine fun (_ : _ = false) => ?_ | refine ⟨fun (_ : true = true) => ?_, fun h => absurd h (by decide)⟩ | refine gtr (k := ?_)))
  refine cmks (nil_begin) Tryd.call45 0 [] [] [] ?_
  (repeat (first | refine gos (k := ?_) | refine fun (_ : _ = false) => ?_ | refine ⟨fun (_ : true = true) => ?_, fun h => absurd h (by decide)⟩ | refine gtr (k := ?_)))
  exact ⟨_, rfl, rfl, trivial⟩
end Go.Proofs.YtddocchgikaahaaDoor
namespace Go.Proofs.YtddocchgikaahaaDoor
open Go.RowKit
set_option linter.unusedVariables false
set_option linter.unusedSimpArgs false
set_option maxRecDepth 100000
set_option maxHeartbeats 1500000
theorem bnil_format (g : Int) : Spec Tryd.prog 12 [.val (.pointer none), .val (.int .u32 g)] [] (pms (.val (.int .i64 2)) [] []) := by
  refine spec_entry tbOk Tryd.func12 rfl Tryd.ntmps12 Tryd.results12 ?_
  (repeat (first | refine gos (k := ?_) | refine fun (_ : _ = false) => ?_ | refine ⟨fun (_ : true = true) => ?_, fun h => absurd h (by decide)⟩ | refine gtr (k := ?_)))
  exact ⟨_, rfl, rfl, trivial⟩
theorem bnil_ready : Spec Tryd.prog 13 [.val (.pointer none)] [] (pms (.val (.int .i64 2)) [] []) := by
  refine spec_entry tbOk Tryd.func13 rfl Tryd.ntmps13 Tryd.results13 ?_
  (repeat (first | refine gos (k := ?_) | refine fun (_ : _ = false) => ?_ | refine ⟨fun (_ : true = true) => ?_, fun h => absurd h (by decide)⟩ | refine gtr (k := ?_)))
  exact ⟨_, rfl, rfl, trivial⟩
theorem bnil_head : Spec Tryd.prog 19 [.val (.pointer none)] [] (pms (.tup [.val (.int .u32 0), .val (.bool false), .val (.int .i64 2)]) [] []) := by
  refine spec_entry tbOk Tryd.func19 rfl Tryd.ntmps19 Tryd.results19 ?_
  (repeat (first | refine gos (k := ?_) | refine fun (_ : _ = false) => ?_ | refine ⟨fun (_ : true = true) => ?_, fun h => absurd h (by decide)⟩ | refine gtr (k := ?_)))
  exact ⟨_, rfl, rfl, trivial⟩
theorem bnil_scan : Spec Tryd.prog 30 [.val (.pointer none)] [] (pms (.tup [.val (.slice none 0 0), .val (.int .i64 0), .val (.bool false), .val (.int .i64 2)]) [] []) := by
  refine spec_entry tbOk Tryd.func30 rfl Tryd.ntmps30 Tryd.results30 ?_
  (repeat (first | refine gos (k := ?_) | refine fun (_ : _ = false) => ?_ | refine ⟨fun (_ : true = true) => ?_, fun h => absurd h (by decide)⟩ | refine gtr (k := ?_)))
  exact ⟨_, rfl, rfl, trivial⟩
theorem bnil_add (k v : AV) : Spec Tryd.prog 15 [.val (.pointer none), .any, .any] [] (pms (.val (.int .i64 2)) [] []) := by
  refine spec_entry tbOk Tryd.func15 rfl Tryd.ntmps15 Tryd.results15 ?_
  (repeat (first | refine gos (k := ?_) | refine fun (_ : _ = false) => ?_ | refine ⟨fun (_ : true = true) => ?_, fun h => absurd h (by decide)⟩ | refine gtr (k := ?_)))
  exact ⟨_, rfl, rfl, trivial⟩
theorem bnil_kill (i : Int) : Spec Tryd.prog 26 [.val (.pointer none), .val (.int .i64 i)] [] (pms (.val (.int .i64 2)) [] []) := by
  refine spec_entry tbOk Tryd.func26 rfl Tryd.ntmps26 Tryd.results26 ?_
  (repeat (first | refine gos (k := ?_) | refine fun (_ : _ = false) => ?_ | refine ⟨fun (_ : true = true) => ?_, fun h => absurd h (by decide)⟩ | refine gtr (k := ?_)))
  exact ⟨_, rfl, rfl, trivial⟩
theorem bnil_room : Spec Tryd.prog 14 [.val (.pointer none)] [] (pms (.val (.int .i64 0)) [] []) := by
  refine spec_entry tbOk Tryd.func14 rfl Tryd.ntmps14 Tryd.results14 ?_
  (repeat (first | refine gos (k := ?_) | refine fun (_ : _ = false) => ?_ | refine ⟨fun (_ : true = true) => ?_, fun h => absurd h (by decide)⟩ | refine gtr (k := ?_)))
  exact ⟨_, rfl, rfl, trivial⟩
theorem records_nil : Spec Tryd.prog 40 [.val (.slice none 0 0)] [] (pms (.val (.slice none 0 0)) [] []) := by
  refine spec_entry tbOk Tryd.func40 rfl Tryd.ntmps40 Tryd.results40 ?_
  (repeat (first | refine gos (k := ?_) | refine fun (_ : _ = false) => ?_ | refine ⟨fun (_ : true = true) => ?_, fun h => absurd h (by decide)⟩ | refine gtr (k := ?_)))
  (refine sts (k := ?_))
  conv => whnf
  refine loop_at (fun i : Nat => i = 0) (fun i => i) 0 [3, 4, 5, 6, 7, 8, 9, 10, 11, 12, 13, 14, 15, 16, 17, 18, 19, 20, 21, 22, 23, 24, 25, 26, 27, 28, 29, 30, 31, 32, 33, 34, 35, 36, 37, 38, 39, 40, 41, 42, 43, 44, 45, 46, 47, 48, 49, 50, 51, 52, 53, 54, 55, 56, 57, 58, 59, 60, 61, 62, 63, 64, 65, 66, 67] (fun i => [(3, .val (.slice none 0 0)), (4, .val (.int .i64 0))]) (fun i => []) 0 rfl ?_ ?_ ?_
  · ((try dsimp only [lpS, anyT, putT, setL]); (repeat (refine And.intro (by first | exact trivial | exact rfl) ?_)); (first | exact trivial | skip))
  · ((try dsimp only [lpS, deadH, putH, setL, Nat.reduceAdd, Nat.zero_add]); (repeat (refine And.intro (by first | exact rfl | exact trivial) ?_)); (first | exact trivial | skip))
  · rintro i v rfl
    (dsimp only [lpS, anyT, putT, setL, deadH, putH, Nat.reduceAdd, Nat.zero_add])
    (repeat (first | refine gos (k := ?_) | refine fun (_ : _ = false) => ?_ | refine ⟨fun (_ : true = true) => ?_, fun h => absurd h (by decide)⟩ | refine gtr (k := ?_)))
    exact ⟨_, rfl, rfl, trivial⟩
theorem twin8_vc (z : Nat) (m : List UInt8) (hl : m.length ≤ 140737488355328) : Spec Tryd.prog 16 [.bs z m] [] (pms (.own 3 2 1 0 m.length) [] [(3, ⟨2, .bytes m⟩)]) := by
  refine spec_entry tbOk Tryd.func16 rfl Tryd.ntmps16 Tryd.results16 ?_
  (repeat (first | refine gos (k := ?_) | refine fun (_ : _ = false) => ?_ | refine ⟨fun (_ : true = true) => ?_, fun h => absurd h (by decide)⟩ | refine gtr (k := ?_)))
  conv => whnf
  refine ⟨m, ?_⟩
  conv => whnf
  refine And.intro ?_ ?_
  · refine ⟨rfl, trivial, rfl, rfl, rfl, rfl, rfl, rfl, ?_, by decide⟩
    simp only [List.map_nil, List.length_nil]
    omega
  (repeat (first | refine gos (k := ?_) | refine fun (_ : _ = false) => ?_ | refine ⟨fun (_ : true = true) => ?_, fun h => absurd h (by decide)⟩ | refine gtr (k := ?_)))
  refine ⟨_, ?_, rfl, rfl, trivial⟩
  simp only [retV, List.map_nil, List.length_nil, Nat.zero_add]
theorem bnil_add_own (k v : List UInt8) (n m v0 v1 : Nat) : Spec Tryd.prog 15 [.val (.pointer none), .own 0 v0 1 0 n, .own 1 v1 1 0 m] [⟨v0, .bytes k⟩, ⟨v1, .bytes v⟩] (pms (.val (.int .i64 2)) [⟨v0, .bytes k⟩, ⟨v1, .bytes v⟩] []) := by
  refine spec_entry tbOk Tryd.func15 rfl Tryd.ntmps15 Tryd.results15 ?_
  (repeat (first | refine gos (k := ?_) | refine fun (_ : _ = false) => ?_ | refine ⟨fun (_ : true = true) => ?_, fun h => absurd h (by decide)⟩ | refine gtr (k := ?_)))
  exact ⟨_, rfl, rfl, trivial⟩
theorem same_own_bs (a b : List UInt8) (n : Nat) (hn : n = a.length) (hb : a.length ≤ 140737488355328) (v z : Nat) : Spec Tryd.prog 22 [.own 0 v 1 0 n, .bs z b] [⟨v, .bytes a⟩] (pms (.val (.bool (decide (a = b)))) [⟨v, .bytes a⟩] []) := by
  subst hn
  have e := whole a
  have h := spec_ro (same_vc 0 0 ((a.drop 0).take a.length) b (by rw [e]; exact hb)) trivial trivial (rows := [⟨v, .bytes a⟩]) (args := [.own 0 v 1 0 a.length, .bs z b]) (asL_cons (as_own (l := a) rfl (by omega)) (asL_cons as_bs asL_nil))
  rw [e] at h
  exact h
theorem nil_prog_own (i : Int) (m : List UInt8) (n : Nat) (hn : n = m.length) (v : Nat) : Spec Tryd.prog 46 [.val (.pointer none), .val (.int .i64 i), .own 0 v 1 0 n] [⟨v, .bytes m⟩] (pms (.val (.int .i64 2)) [⟨v, .bytes m⟩] []) := by
  subst hn
  exact spec_ro (nil_prog i 0 ((m.drop 0).take m.length)) trivial trivial (rows := [⟨v, .bytes m⟩]) (args := [.val (.pointer none), .val (.int .i64 i), .own 0 v 1 0 m.length]) (asL_cons as_val (asL_cons as_val (asL_cons (as_own (l := m) rfl (by omega)) asL_nil)))
theorem does_nil (K n p : Int) (hn : I64 n) (z z' : Nat) (key val : List UInt8) (hk : key.length ≤ 140737488355328) (hv : val.length ≤ 140737488355328) (E : Int) (hE : E = if 0 ≤ K ∧ K ≤ 8 then 2 else 0) : Spec Tryd.prog 28 [.val (.pointer none), .val (.pointer none), .agg [.val (.int .i64 K), .val (.int .i64 n), .val (.int .i64 p), .bs z key, .bs z' val]] []
   (pms (.tup [.agg [.val (.slice none 0 0), .val (.int .i64 0), .val (.bool false), .val (.int .i64 E)], .val (.bool true)]) [] []) := by
  refine spec_entry tbOk Tryd.func28 rfl Tryd.ntmps28 Tryd.results28 ?_
  by_cases k0 : K = 0
  · subst k0
    obtain rfl : E = 2 := hE
    (repeat (first | refine gos (k := ?_) | refine fun (_ : _ = false) => ?_ | refine ⟨fun (_ : true = true) => ?_, fun h => absurd h (by decide)⟩ | refine gtr (k := ?_)))
    refine cmks (bnil_format (n % 4294967296 % 4294967296)) Tryd.call12 0 [] [] [] ?_
    (repeat (first | refine gos (k := ?_) | refine fun (_ : _ = false) => ?_ | refine ⟨fun (_ : true = true) => ?_, fun h => absurd h (by decide)⟩ | refine gtr (k := ?_)))
    exact ⟨_, rfl, rfl, trivial⟩
  by_cases k1 : K = 1
  · subst k1
    obtain rfl : E = 2 := hE
    (repeat (first | refine gos (k := ?_) | refine fun (_ : _ = false) => ?_ | refine ⟨fun (_ : true = true) => ?_, fun h => absurd h (by decide)⟩ | refine gtr (k := ?_)))
    refine cmks (bnil_ready) Tryd.call13 0 [] [] [] ?_
    (repeat (first | refine gos (k := ?_) | refine fun (_ : _ = false) => ?_ | refine ⟨fun (_ : true = true) => ?_, fun h => absurd h (by decide)⟩ | refine gtr (k := ?_)))
    exact ⟨_, rfl, rfl, trivial⟩
  by_cases k2 : K = 2
  · subst k2
    obtain rfl : E = 2 := hE
    (repeat (first | refine gos (k := ?_) | refine fun (_ : _ = false) => ?_ | refine ⟨fun (_ : true = true) => ?_, fun h => absurd h (by decide)⟩ | refine gtr (k := ?_)))
    refine cmks (bnil_head) Tryd.call19 0 [] [] [] ?_
    (repeat (first | refine gos (k := ?_) | refine fun (_ : _ = false) => ?_ | refine ⟨fun (_ : true = true) => ?_, fun h => absurd h (by decide)⟩ | refine gtr (k := ?_)))
    exact ⟨_, rfl, rfl, trivial⟩
  by_cases k3 : K = 3
  · subst k3
    obtain rfl : E = 2 := hE
    (repeat (first | refine gos (k := ?_) | refine fun (_ : _ = false) => ?_ | refine ⟨fun (_ : true = true) => ?_, fun h => absurd h (by decide)⟩ | refine gtr (k := ?_)))
    refine cmks (bnil_scan) Tryd.call30 0 [] [] [] ?_
    (repeat (first | refine gos (k := ?_) | refine fun (_ : _ = false) => ?_ | refine ⟨fun (_ : true = true) => ?_, fun h => absurd h (by decide)⟩ | refine gtr (k := ?_)))
    refine cmks (records_nil) Tryd.call40 0 [] [] [] ?_
    (repeat (first | refine gos (k := ?_) | refine fun (_ : _ = false) => ?_ | refine ⟨fun (_ : true = true) => ?_, fun h => absurd h (by decide)⟩ | refine gtr (k := ?_)))
    exact ⟨_, rfl, rfl, trivial⟩
  by_cases k4 : K = 4
  · subst k4
    obtain rfl : E = 2 := hE
    (repeat (first | refine gos (k := ?_) | refine fun (_ : _ = false) => ?_ | refine ⟨fun (_ : true = true) => ?_, fun h => absurd h (by decide)⟩ | refine gtr (k := ?_)))
    refine cmks (twin8_vc z key hk) Tryd.call16 0 [0, 0, 0, 66] [0, 0, 0, 1] [3] ?_
    (repeat (first | refine gos (k := ?_) | refine fun (_ : _ = false) => ?_ | refine ⟨fun (_ : true = true) => ?_, fun h => absurd h (by decide)⟩ | refine gtr (k := ?_)))
    refine cmks (twin8_vc z' val hv) Tryd.call16 0 [0, 0, 0, 69] [0, 0, 0, 1] [3] ?_
    (repeat (first | refine gos (k := ?_) | refine fun (_ : _ = false) => ?_ | refine ⟨fun (_ : true = true) => ?_, fun h => absurd h (by decide)⟩ | refine gtr (k := ?_)))
    refine cmks (bnil_add_own key val key.length val.length 3 3) Tryd.call15 2 [66, 69] [0, 0] [] ?_
    (repeat (first | refine gos (k := ?_) | refine fun (_ : _ = false) => ?_ | refine ⟨fun (_ : true = true) => ?_, fun h => absurd h (by decide)⟩ | refine gtr (k := ?_)))
    (refine sts (k := ?_))
    refine draw_of (p := 0) tbOk hm [0, 0, 0, 4, 14, 30, 62, 62, 190, 510, 1022, 1023, 4095] [⟨0, true, false, [76, 77, 78, 79, 80, 81, 82, 83, 84, 85, 7]⟩, ⟨1, false, false, []⟩, ⟨2, true, false, [75, 76, 78, 79, 80, 81, 82, 83, 84, 85, 7]⟩, ⟨3, true, false, [75, 76, 79, 80, 81, 82, 83, 84, 85, 7]⟩, ⟨4, true, false, [75, 80, 81, 82, 83, 84, 85, 7]⟩, ⟨5, false, false, []⟩, ⟨6, false, false, []⟩, ⟨7, true, false, [75, 81, 83, 84, 85, 7]⟩, ⟨8, true, false, [75, 81, 84, 85, 7]⟩, ⟨9, true, false, [75, 85, 7]⟩, ⟨10, false, false, []⟩, ⟨11, true, true, [85, 7]⟩, ⟨12, false, false, []⟩] (by kernel_rfl) ?_
    (repeat (first | refine gos (k := ?_) | refine fun (_ : _ = false) => ?_ | refine ⟨fun (_ : true = true) => ?_, fun h => absurd h (by decide)⟩ | refine gtr (k := ?_)))
    refine cmks (same_own_bs key key key.length rfl hk 3 z) Tryd.call22 1 [66] [0] [] ?_
    rw [decide_eq_true (rfl : key = key)]
    (repeat (first | refine gos (k := ?_) | refine fun (_ : _ = false) => ?_ | refine ⟨fun (_ : true = true) => ?_, fun h => absurd h (by decide)⟩ | refine gtr (k := ?_)))
    refine cmks (same_own_bs val val val.length rfl hv 3 z') Tryd.call22 1 [69] [0] [] ?_
    rw [decide_eq_true (rfl : val = val)]
    (repeat (first | refine gos (k := ?_) | refine fun (_ : _ = false) => ?_ | refine ⟨fun (_ : true = true) => ?_, fun h => absurd h (by decide)⟩ | refine gtr (k := ?_)))
    exact ⟨_, rfl, rfl, trivial⟩
  by_cases k5 : K = 5
  · subst k5
    obtain rfl : E = 2 := hE
    (repeat (first | refine gos (k := ?_) | refine fun (_ : _ = false) => ?_ | refine ⟨fun (_ : true = true) => ?_, fun h => absurd h (by decide)⟩ | refine gtr (k := ?_)))
    refine cmks (bnil_kill n) Tryd.call26 0 [] [] [] ?_
    (repeat (first | refine gos (k := ?_) | refine fun (_ : _ = false) => ?_ | refine ⟨fun (_ : true = true) => ?_, fun h => absurd h (by decide)⟩ | refine gtr (k := ?_)))
    exact ⟨_, rfl, rfl, trivial⟩
  by_cases k6 : K = 6
  · subst k6
    obtain rfl : E = 2 := hE
    (repeat (first | refine gos (k := ?_) | refine fun (_ : _ = false) => ?_ | refine ⟨fun (_ : true = true) => ?_, fun h => absurd h (by decide)⟩ | refine gtr (k := ?_)))
    refine cmks (nil_arm n p) Tryd.call24 0 [] [] [] ?_
    (repeat (first | refine gos (k := ?_) | refine fun (_ : _ = false) => ?_ | refine ⟨fun (_ : true = true) => ?_, fun h => absurd h (by decide)⟩ | refine gtr (k := ?_)))
    exact ⟨_, rfl, rfl, trivial⟩
  by_cases k7 : K = 7
  · subst k7
    obtain rfl : E = 2 := hE
    (repeat (first | refine gos (k := ?_) | refine fun (_ : _ = false) => ?_ | refine ⟨fun (_ : true = true) => ?_, fun h => absurd h (by decide)⟩ | refine gtr (k := ?_)))
    refine cmks (nil_on) Tryd.call25 0 [] [] [] ?_
    (repeat (first | refine gos (k := ?_) | refine fun (_ : _ = false) => ?_ | refine ⟨fun (_ : true = true) => ?_, fun h => absurd h (by decide)⟩ | refine gtr (k := ?_)))
    exact ⟨_, rfl, rfl, trivial⟩
  by_cases k8 : K = 8
  · subst k8
    obtain rfl : E = 2 := hE
    (repeat (first | refine gos (k := ?_) | refine fun (_ : _ = false) => ?_ | refine ⟨fun (_ : true = true) => ?_, fun h => absurd h (by decide)⟩ | refine gtr (k := ?_)))
    (refine sts (k := ?_))
    refine draw_of (p := 0) tbOk hm [0, 0, 2, 0, 8, 24, 63, 127, 255] [⟨0, false, false, []⟩, ⟨1, true, false, [109, 111, 112, 113, 114, 115, 116]⟩, ⟨2, true, false, [109, 112, 113, 114, 115, 116]⟩, ⟨3, true, false, [109, 110, 111, 113, 114, 115, 116]⟩, ⟨4, true, false, [109, 110, 111, 114, 115, 116]⟩, ⟨5, true, false, [109, 110, 111, 115, 116]⟩, ⟨6, true, false, [116]⟩, ⟨7, true, false, []⟩, ⟨8, true, true, []⟩] (by kernel_rfl) ?_
    (repeat (first | refine gos (k := ?_) | refine fun (_ : _ = false) => ?_ | refine ⟨fun (_ : true = true) => ?_, fun h => absurd h (by decide)⟩ | refine gtr (k := ?_)))
    refine cmks (twin8_vc z' val hv) Tryd.call16 0 [0, 0, 0, 114] [0, 0, 0, 1] [3] ?_
    (repeat (first | refine gos (k := ?_) | refine fun (_ : _ = false) => ?_ | refine ⟨fun (_ : true = true) => ?_, fun h => absurd h (by decide)⟩ | refine gtr (k := ?_)))
    refine cmks (nil_prog_own n val val.length rfl 3) Tryd.call46 1 [114] [0] [] ?_
    (repeat (first | refine gos (k := ?_) | refine fun (_ : _ = false) => ?_ | refine ⟨fun (_ : true = true) => ?_, fun h => absurd h (by decide)⟩ | refine gtr (k := ?_)))
    exact ⟨_, rfl, rfl, trivial⟩
  have hE0 : E = 0 := by rw [hE, if_neg (by omega)]
  rw [hE0]
  clear hE0 hE
  (repeat (first | refine gos (k := ?_) | refine fun (_ : _ = false) => ?_ | refine ⟨fun (_ : true = true) => ?_, fun h => absurd h (by decide)⟩ | refine gtr (k := ?_)))
  exact ⟨_, rfl, rfl, trivial⟩
end Go.Proofs.YtddocchgikaahaaDoor
namespace Go.Proofs.YtddocchgikaahaaDoor
open Go.RowKit
set_option linter.unusedVariables false
set_option linter.unusedSimpArgs false
set_option maxRecDepth 100000
set_option maxHeartbeats 1500000
/-- an own slice, as a slice in a zone -/
theorem as_slG {rows : List Ent} {r ver sz n : Nat} {α β : Type} {f : α → List AV} {d : α} {l0 : List α} {g : β → List AV} {d' : β} {ls : List β} (he : getL rows r = some ⟨ver, .row sz f d l0⟩) (hn : n = l0.length) (hl : ls.length = n)
    (hel : ∀ (i : Nat) (x : α) (y : β), l0[i]? = some x → ls[i]? = some y → AsL rows (f x) (g y)) : As rows (.own r ver sz 0 n) (.sl 0 sz g d' ls) := fun E E0 w v hr hz h => by
  rw [getL_eq] at he
  simp only [Go.Proofs.YtddocchgikaahaaDoor.rep] at h ⊢
  obtain ⟨a, c, rfl, h2, h3, h4, h5⟩ := h.2 (hr.ver r _ he).symm
  refine ⟨a, n, c, rfl, hl.symm, h2, h3, h4, fun i x hx => ?_⟩
  have hi := (List.getElem?_eq_some_iff.1 hx).1
  obtain ⟨hna, rfl, _⟩ := h5.resolve_left (by omega)
  have hliv : Liv E r ⟨ver, .row sz f d l0⟩ := ⟨rfl, hna⟩
  obtain ⟨cur, T, lo, hi', g1, g2, g3, g4⟩ := (hr.ent r _ he hliv).blk rfl
  have hi0 : i < l0.length := by omega
  obtain ⟨cs, k1, k2, k3⟩ := g4 i (f l0[i]) (by simp only [Bd.at]; rw [List.getElem?_eq_getElem hi0]; rfl)
  refine ⟨_, _, cs, rfl, (hz 0 _).2 ⟨rfl, hr.lt he hliv⟩, k1, hel i _ x (List.getElem?_eq_getElem hi0) hx E E0 w cs hr hz k2, fun j u hu => ?_⟩
  rw [cell_of_row w _ _ cur T (lo, hi') g1, Nat.zero_mul, Nat.zero_add]
  exact k3 j u hu
/-- what is done, as the caller hands it in -/
structure OpB where
  K : Int
  n : Int
  p : Int
  key : List UInt8
  val : List UInt8
def opB (z : Nat) (o : OpB) : List AV := [.val (.int .i64 o.K), .val (.int .i64 o.n), .val (.int .i64 o.p), .bs z o.key, .bs z o.val]
def opB0 : OpB := ⟨0, 0, 0, [], []⟩
structure OpBOk (o : OpB) : Prop where
  K : I64 o.K
  n : I64 o.n
  p : I64 o.p
  key : o.key.length ≤ 140737488355328
  val : o.val.length ≤ 140737488355328
def sumV : List OpB → Int
  | [] => 0
  | o :: l => min (o.key.length : Int) 262144 + min (o.val.length : Int) 262144 + sumV l
theorem sumV_snoc (o : OpB) : ∀ l, sumV (l ++ [o]) = sumV l + (min (o.key.length : Int) 262144 + min (o.val.length : Int) 262144)
  | [] => by simp [sumV]
  | x :: l => by
    have := sumV_snoc o l
    simp only [List.cons_append, sumV, this]; omega
theorem sumV_nonneg : ∀ l, 0 ≤ sumV l
  | [] => Int.le_refl _
  | o :: l => by have := sumV_nonneg l; simp only [sumV]; omega
theorem sumV_take {l : List OpB} {i : Nat} (h : i < l.length) : sumV (l.take (i + 1)) = sumV (l.take i) + (min ((l.getD i opB0).key.length : Int) 262144 + min ((l.getD i opB0).val.length : Int) 262144) := by
  rw [List.take_succ_eq_append_getElem h, sumV_snoc, List.getD_eq_getElem?_getD, List.getElem?_eq_getElem h]; rfl
theorem sumV_le (l : List OpB) (i : Nat) : sumV (l.take i) ≤ sumV l := by
  have key : ∀ (a b : List OpB), sumV (a ++ b) = sumV a + sumV b := by
    intro a b
    induction a with
    | nil => simp [sumV]
    | cons x a ih => simp only [List.cons_append, sumV, ih]; omega
  have h := congrArg sumV (List.take_append_drop i l)
  rw [key] at h
  have := sumV_nonneg (l.drop i)
  omega
def vastB (s k : Int) (l : List OpB) : Bool := decide (80 < l.length ∨ 8 < s ∨ 2048 < k) || decide (131072 < sumV l)
theorem vast_vc (z : Nat) (s k a c : Int) (l : List OpB) : Spec Tryd.prog 27 [.agg [.val (.int .i64 s), .val (.int .i64 k), .val (.int .i64 a), .val (.int .i64 c)], .sl z 5 (opB z) opB0 l] [] (pms (.val (.bool (vastB s k l))) [] []) := by
  refine spec_entry tbOk Tryd.func27 rfl Tryd.ntmps27 Tryd.results27 ?_
  (repeat (first | refine gos (k := ?_) | refine fun (_ : _ = false) => ?_ | refine ⟨fun (_ : true = true) => ?_, fun h => absurd h (by decide)⟩ | refine gtr (k := ?_)))
  refine ⟨fun h => ?_, fun h => ?_⟩
  · have hv : vastB s k l = true := by
      simp only [vastB, Bool.or_eq_true, decide_eq_true_eq] at h ⊢
      omega
    rw [hv]
    (repeat (first | refine gos (k := ?_) | refine fun (_ : _ = false) => ?_ | refine ⟨fun (_ : true = true) => ?_, fun h => absurd h (by decide)⟩ | refine gtr (k := ?_)))
    exact ⟨_, rfl, rfl, trivial⟩
  have hn : ¬ (80 < l.length ∨ 8 < s ∨ 2048 < k) := by
    simp only [Bool.or_eq_false_iff, decide_eq_false_iff_not] at h
    omega
  have hv2 : vastB s k l = decide (131072 < sumV l) := by unfold vastB; rw [decide_eq_false hn, Bool.false_or]
  rw [hv2]
  clear hv2
  (repeat (first | refine gos (k := ?_) | refine fun (_ : _ = false) => ?_ | refine ⟨fun (_ : true = true) => ?_, fun h => absurd h (by decide)⟩ | refine gtr (k := ?_)))
  (refine sts (k := ?_))
  conv => whnf
  refine loop_at (fun i : Nat => i ≤ l.length ∧ sumV (l.take i) ≤ 131072) (fun i => l.length - i) 0 [4, 5, 6, 20, 21, 22, 23, 24, 25, 26, 27, 28, 29, 30, 31, 32, 33, 34, 35, 36, 37, 38, 39, 40, 41, 42, 43, 44] (fun i => [(4, .val (.bool false)), (5, .val (.int .i64 (sumV (l.take i)))), (6, .val (.int .i64 i))]) (fun i => []) 0 ⟨Nat.zero_le _, by simp [sumV]⟩ ?_ ?_ ?_
  · ((try dsimp only [lpS, anyT, putT, setL]); (repeat (refine And.intro (by first | exact trivial | exact rfl) ?_)); (first | exact trivial | skip))
  · ((try dsimp only [lpS, deadH, putH, setL, Nat.reduceAdd, Nat.zero_add]); (repeat (refine And.intro (by first | exact rfl | exact trivial) ?_)); (first | exact trivial | skip))
  · rintro i v ⟨i1, i2⟩
    have i0 := sumV_nonneg (l.take i)
    (dsimp only [lpS, anyT, putT, setL, deadH, putH, Nat.reduceAdd, Nat.zero_add])
    (repeat (first | refine gos (k := ?_) | refine fun (_ : _ = false) => ?_ | refine ⟨fun (_ : true = true) => ?_, fun h => absurd h (by decide)⟩ | refine gtr (k := ?_)))
    refine ⟨fun h => ?_, fun h => ?_⟩
    · have hlt : i < l.length := by have := of_decide_eq_true h; omega
      have hs := sumV_take hlt
      have hs0 := sumV_nonneg (l.take (i + 1))
      (repeat (first | refine gos (k := ?_) | refine fun (_ : _ = false) => ?_ | refine ⟨fun (_ : true = true) => ?_, fun h => absurd h (by decide)⟩ | refine gtr (k := ?_)))
      (refine sts (k := ?_))
      refine draw_of (p := 0) tbOk hm [0, 0, 0, 6, 14, 30, 62, 126, 255, 0, 0, 1536, 3584, 7680, 15872, 32256, 65535, 131071] [⟨0, false, false, []⟩, ⟨1, false, false, []⟩, ⟨2, false, false, []⟩, ⟨3, true, false, [26, 30, 31, 32, 33, 34, 35, 36, 37, 38, 39, 40, 41, 42, 5]⟩, ⟨4, true, false, [26, 31, 32, 33, 34, 35, 36, 37, 38, 39, 40, 41, 42, 5]⟩, ⟨5, true, false, [26, 32, 33, 34, 35, 36, 37, 38, 39, 40, 41, 42, 5]⟩, ⟨6, true, false, [26, 33, 34, 35, 36, 37, 38, 39, 40, 41, 42, 5]⟩, ⟨7, false, false, []⟩, ⟨8, false, false, []⟩, ⟨9, false, false, []⟩, ⟨10, false, false, []⟩, ⟨11, true, false, [26, 27, 28, 29, 30, 31, 32, 33, 34, 38, 39, 40, 41, 42, 5]⟩, ⟨12, true, false, [26, 27, 28, 29, 30, 31, 32, 33, 34, 39, 40, 41, 42, 5]⟩, ⟨13, true, false, [26, 27, 28, 29, 30, 31, 32, 33, 34, 40, 41, 42, 5]⟩, ⟨14, true, false, [26, 27, 28, 29, 30, 31, 32, 33, 34, 41, 42, 5]⟩, ⟨15, false, false, []⟩, ⟨16, false, false, []⟩, ⟨17, false, false, []⟩] (by kernel_rfl) ?_
      (repeat (first | refine gos (k := ?_) | refine fun (_ : _ = false) => ?_ | refine ⟨fun (_ : true = true) => ?_, fun h => absurd h (by decide)⟩ | refine gtr (k := ?_)))
      simp only [Bool.false_eq_true, if_false, Int.toNat_natCast]
      (repeat (first | refine gos (k := ?_) | refine fun (_ : _ = false) => ?_ | refine ⟨fun (_ : true = true) => ?_, fun h => absurd h (by decide)⟩ | refine gtr (k := ?_)))
      simp only [Bool.false_eq_true, if_false, Int.toNat_natCast]
      (repeat (first | refine gos (k := ?_) | refine fun (_ : _ = false) => ?_ | refine ⟨fun (_ : true = true) => ?_, fun h => absurd h (by decide)⟩ | refine gtr (k := ?_)))
      have hle := sumV_le l (i + 1)
      have hsum : sumV (l.take i) + min ((l.getD i opB0).key.length : Int) 262144 + min ((l.getD i opB0).val.length : Int) 262144 = sumV (l.take (i + 1)) := by rw [hs]; omega
      rw [hsum]
      refine ⟨fun h => ?_, fun h => ?_⟩
      · have hb := of_decide_eq_true h
        (repeat (first | refine gos (k := ?_) | refine fun (_ : _ = false) => ?_ | refine ⟨fun (_ : true = true) => ?_, fun h => absurd h (by decide)⟩ | refine gtr (k := ?_)))
        rw [decide_eq_true (by omega : 131072 < sumV l)]
        exact ⟨_, rfl, rfl, trivial⟩
      · have hb := of_decide_eq_false h
        (repeat (first | refine gos (k := ?_) | refine fun (_ : _ = false) => ?_ | refine ⟨fun (_ : true = true) => ?_, fun h => absurd h (by decide)⟩ | refine gtr (k := ?_)))
        refine back_at (i + 1) ⟨hlt, by omega⟩ (by show l.length - (i + 1) < l.length - i; omega) ?_ ?_
        · ((try dsimp only [lpS, anyT, putT, setL]); (repeat (refine And.intro (by first | exact trivial | exact rfl) ?_)); (first | exact trivial | skip))
        · ((try dsimp only [lpS, deadH, putH, setL, Nat.reduceAdd, Nat.zero_add]); (repeat (refine And.intro (by first | exact rfl | exact trivial) ?_)); (first | exact trivial | skip))
    · (repeat (first | refine gos (k := ?_) | refine fun (_ : _ = false) => ?_ | refine ⟨fun (_ : true = true) => ?_, fun h => absurd h (by decide)⟩ | refine gtr (k := ?_)))
      have hi : i = l.length := by have := of_decide_eq_false h; omega
      subst hi
      rw [List.take_length] at i2
      rw [decide_eq_false (by omega : ¬ 131072 < sumV l)]
      exact ⟨_, rfl, rfl, trivial⟩
theorem opB_as (rows : List Ent) (z : Nat) (o : OpB) : AsL rows (opB z o) (opB 0 o) := asL_cons as_val (asL_cons as_val (asL_cons as_val (asL_cons as_bs (asL_cons as_bs asL_nil))))
theorem vast_own (o : OpB) (v : Nat) : Spec Tryd.prog 27 [.agg [.val (.int .i64 0), .val (.int .i64 0), .val (.int .i64 0), .val (.int .i64 0)], .own 0 v 5 0 1] [⟨v, .row 5 (opB 0) opB0 [o]⟩] (pms (.val (.bool (vastB 0 0 [o]))) [⟨v, .row 5 (opB 0) opB0 [o]⟩] []) :=
  spec_ro (vast_vc 0 0 0 0 0 [o]) trivial trivial (rows := [⟨v, .row 5 (opB 0) opB0 [o]⟩]) (args := [.agg [.val (.int .i64 0), .val (.int .i64 0), .val (.int .i64 0), .val (.int .i64 0)], .own 0 v 5 0 1])
    (asL_cons (as_agg (asL_cons as_val (asL_cons as_val (asL_cons as_val (asL_cons as_val asL_nil))))) (asL_cons (as_slG (l0 := [o]) rfl rfl rfl fun i x y hx hy => by
      rw [hx] at hy; cases hy; exact opB_as _ 0 _) asL_nil))
theorem law_nil (o : OpB) (ho : OpBOk o) (first count : Int) : Spec Tryd.prog 6 [.agg (opB 0 o), .val (.int .i64 first), .val (.int .i64 count)] [] (pms (.val (.bool true)) [] []) := by
  obtain ⟨K, n, p, key, val⟩ := o
  have hk := ho.key
  have hv := ho.val
  have hn := ho.n
  simp only at hk hv hn
  refine spec_entry tbOk Tryd.func6 rfl Tryd.ntmps6 Tryd.results6 ?_
  unfold opB
  (repeat (first | refine gos (k := ?_) | refine fun (_ : _ = false) => ?_ | refine ⟨fun (_ : true = true) => ?_, fun h => absurd h (by decide)⟩ | refine gtr (k := ?_)))
  refine cmksW (vast_own ⟨K, n, p, key, val⟩ 1) Tryd.call27 (hr2 := ⟨fun _ => ⟨trivial, trivial, trivial, trivial, trivial, trivial⟩, trivial⟩) 1 [15] [0] [] ?_ ?_
  · exact ⟨⟨fun _ => ⟨trivial, trivial, trivial, trivial, trivial, trivial⟩, _, rfl, WeakE.row 1 5 rfl⟩, trivial⟩
  (repeat (first | refine gos (k := ?_) | refine fun (_ : _ = false) => ?_ | refine ⟨fun (_ : true = true) => ?_, fun h => absurd h (by decide)⟩ | refine gtr (k := ?_)))
  refine ⟨fun h => ?_, fun h => ?_⟩
  · (repeat (first | refine gos (k := ?_) | refine fun (_ : _ = false) => ?_ | refine ⟨fun (_ : true = true) => ?_, fun h => absurd h (by decide)⟩ | refine gtr (k := ?_)))
    refine cmks (works_vc) Tryd.call9 0 [] [] [] ?_
    (repeat (first | refine gos (k := ?_) | refine fun (_ : _ = false) => ?_ | refine ⟨fun (_ : true = true) => ?_, fun h => absurd h (by decide)⟩ | refine gtr (k := ?_)))
    exact ⟨_, rfl, rfl, trivial⟩
  (repeat (first | refine gos (k := ?_) | refine fun (_ : _ = false) => ?_ | refine ⟨fun (_ : true = true) => ?_, fun h => absurd h (by decide)⟩ | refine gtr (k := ?_)))
  refine cdet (at_nil first count) Tryd.call11 [] ?_
  (repeat (first | refine gos (k := ?_) | refine fun (_ : _ = false) => ?_ | refine ⟨fun (_ : true = true) => ?_, fun h => absurd h (by decide)⟩ | refine gtr (k := ?_)))
  refine cmks (does_nil K n p hn 0 0 key val hk hv _ rfl) Tryd.call28 0 [] [] [] ?_
  by_cases hK : 0 ≤ K ∧ K ≤ 8
  · rw [if_pos hK]
    (repeat (first | refine gos (k := ?_) | refine fun (_ : _ = false) => ?_ | refine ⟨fun (_ : true = true) => ?_, fun h => absurd h (by decide)⟩ | refine gtr (k := ?_)))
    have hkb : (decide (0 ≤ K) && decide (K ≤ 8)) = true := by rw [decide_eq_true hK.1, decide_eq_true hK.2]; rfl
    rw [hkb]
    refine cmks (bnil_room) Tryd.call14 0 [] [] [] ?_
    (repeat (first | refine gos (k := ?_) | refine fun (_ : _ = false) => ?_ | refine ⟨fun (_ : true = true) => ?_, fun h => absurd h (by decide)⟩ | refine gtr (k := ?_)))
    refine cmks (works_vc) Tryd.call9 0 [] [] [] ?_
    (repeat (first | refine gos (k := ?_) | refine fun (_ : _ = false) => ?_ | refine ⟨fun (_ : true = true) => ?_, fun h => absurd h (by decide)⟩ | refine gtr (k := ?_)))
    exact ⟨_, rfl, rfl, trivial⟩
  · rw [if_neg hK]
    (repeat (first | refine gos (k := ?_) | refine fun (_ : _ = false) => ?_ | refine ⟨fun (_ : true = true) => ?_, fun h => absurd h (by decide)⟩ | refine gtr (k := ?_)))
    have hkb : (decide (0 ≤ K) && decide (K ≤ 8)) = false := by
      rw [Bool.and_eq_false_iff, decide_eq_false_iff_not, decide_eq_false_iff_not]; omega
    rw [hkb]
    refine cmks (bnil_room) Tryd.call14 0 [] [] [] ?_
    (repeat (first | refine gos (k := ?_) | refine fun (_ : _ = false) => ?_ | refine ⟨fun (_ : true = true) => ?_, fun h => absurd h (by decide)⟩ | refine gtr (k := ?_)))
    refine cmks (works_vc) Tryd.call9 0 [] [] [] ?_
    (repeat (first | refine gos (k := ?_) | refine fun (_ : _ = false) => ?_ | refine ⟨fun (_ : true = true) => ?_, fun h => absurd h (by decide)⟩ | refine gtr (k := ?_)))
    exact ⟨_, rfl, rfl, trivial⟩
end Go.Proofs.YtddocchgikaahaaDoor
