/- Walks of bank: size, read, program, Room, Ready. Walks of bank: Ready, Head, Format. Walks of bank: each, scan. Walks of bank: Scan, Kill, Add. Walks of bank: Add. Conditions: the premises of each law. -/
import Derived.Test.YtmjpbmcbcppkfaaGreatDoorJGa
import Derived.Test.YtmjpbmcbcppkfaaGreatDoorJGf
import Derived.Test.YtmjpbmcbcppkfaaGreatDoorJAe
namespace Go.Proofs.YtmjpbmcbcppkfaaGreatDoor
open Go.RowKit
set_option linter.unusedVariables false
set_option linter.unusedSimpArgs false
set_option maxRecDepth 100000
set_option maxHeartbeats 1500000
structure BOk (s : FlS) (a c : Nat) : Prop where
 len : s.l.length ≤ 140737488355328
 k : 0 < s.k ∧ s.k ≤ 65536
 fit : a * s.k + c * s.k ≤ s.l.length
 ac : a ≤ 140737488355328 ∧ c ≤ 140737488355328
theorem BOk.int {s : FlS} {a c : Nat} (h : BOk s a c) : 0 ≤ (a : Int) * (s.k : Int) ∧ 0 ≤ (c : Int) * (s.k : Int) ∧ (a : Int) * (s.k : Int) + (c : Int) * (s.k : Int) ≤ s.l.length := by
 have := h.fit
 refine ⟨by exact_mod_cast Nat.zero_le _, by exact_mod_cast Nat.zero_le _, by exact_mod_cast this⟩
theorem bsize_vc (s : FlS) (a c : Nat) (h : BOk s a c) (vb v0 v1 : Nat) : Spec Tryz.prog 113 [.ref 0 vb 3 0 0] [⟨vb, .obj [.ref 1 v0 6 0 0, .val (.int .i64 (a : Int)), .val (.int .i64 (c : Int))]⟩, ⟨v0, .obj [.own 2 v1 1 0 s.l.length, .val (.int .i64 (s.k : Int)), .val (.int .i64 s.ar), .val (.int .i64 s.pt), .val (.bool s.dd), .val (.int .i64 s.wr)]⟩, ⟨v1, .bytes s.l⟩] (pst (.val (.int .i64 ((c : Int) * s.k))) [⟨vb, .obj [.ref 1 v0 6 0 0, .val (.int .i64 (a : Int)), .val (.int .i64 (c : Int))]⟩, ⟨v0, .obj [.own 2 v1 1 0 s.l.length, .val (.int .i64 (s.k : Int)), .val (.int .i64 s.ar), .val (.int .i64 s.pt), .val (.bool s.dd), .val (.int .i64 s.wr)]⟩, ⟨v1, .bytes s.l⟩]) := by
 have hi := h.int
 have hl := h.len
 refine spec_entry tbOk Tryz.func113 rfl Tryz.ntmps113 Tryz.results113 ?_
 refine gg (k := ?_)
 (refine sts (k := ?_))
 refine draw_of (p := 3) tbOk hm [0, 1, 3, 7, 0, 16, 48, 112, 240, 511, 1023] [⟨0, false, false, []⟩, ⟨1, true, false, [5, 6, 7, 8, 9, 10, 11, 12, 2]⟩, ⟨2, true, false, [6, 7, 8, 9, 10, 11, 12, 2]⟩, ⟨3, true, false, [7, 8, 9, 10, 11, 12, 2]⟩, ⟨4, false, false, []⟩, ⟨5, true, false, [3, 4, 5, 6, 9, 10, 11, 12, 2]⟩, ⟨6, true, false, [3, 4, 5, 6, 10, 11, 12, 2]⟩, ⟨7, true, false, [3, 4, 5, 6, 11, 12, 2]⟩, ⟨8, true, false, [3, 4, 5, 6, 12, 2]⟩, ⟨9, false, false, []⟩, ⟨10, false, false, []⟩] (by kernel_rfl) ?_
 refine gg (k := ?_)
 refine cdet (spec_size s v0 v1) Tryz.call75 [1, 2] ?_
 refine gg (k := ?_)
 exact ⟨_, rfl, rfl⟩
theorem room_vc (s : FlS) (a c : Nat) (h : BOk s a c) (vb v0 v1 : Nat) : Spec Tryz.prog 73 [.ref 0 vb 3 0 0] [⟨vb, .obj [.ref 1 v0 6 0 0, .val (.int .i64 (a : Int)), .val (.int .i64 (c : Int))]⟩, ⟨v0, .obj [.own 2 v1 1 0 s.l.length, .val (.int .i64 (s.k : Int)), .val (.int .i64 s.ar), .val (.int .i64 s.pt), .val (.bool s.dd), .val (.int .i64 s.wr)]⟩, ⟨v1, .bytes s.l⟩] (pst (.val (.int .i64 ((c : Int) * s.k - 16))) [⟨vb, .obj [.ref 1 v0 6 0 0, .val (.int .i64 (a : Int)), .val (.int .i64 (c : Int))]⟩, ⟨v0, .obj [.own 2 v1 1 0 s.l.length, .val (.int .i64 (s.k : Int)), .val (.int .i64 s.ar), .val (.int .i64 s.pt), .val (.bool s.dd), .val (.int .i64 s.wr)]⟩, ⟨v1, .bytes s.l⟩]) := by
 have hi := h.int
 have hl := h.len
 refine spec_entry tbOk Tryz.func73 rfl Tryz.ntmps73 Tryz.results73 ?_
 refine gg (k := ?_)
 refine cdet (bsize_vc s a c h vb v0 v1) Tryz.call113 [0, 1, 2] ?_
 refine gg (k := ?_)
 exact ⟨_, rfl, rfl⟩
theorem bread_vc (s : FlS) (a c : Nat) (h : BOk s a c) (n : Int) (hn : I64 n) (vb v0 v1 : Nat) : Spec Tryz.prog 147 [.ref 0 vb 3 0 0, .val (.int .i64 n)] [⟨vb, .obj [.ref 1 v0 6 0 0, .val (.int .i64 (a : Int)), .val (.int .i64 (c : Int))]⟩, ⟨v0, .obj [.own 2 v1 1 0 s.l.length, .val (.int .i64 (s.k : Int)), .val (.int .i64 s.ar), .val (.int .i64 s.pt), .val (.bool s.dd), .val (.int .i64 s.wr)]⟩, ⟨v1, .bytes s.l⟩]
   (pms (.tup [.own 24 4 1 0 (s.read ((a : Int) * s.k) n).2.length, .val (.int .i64 (s.read ((a : Int) * s.k) n).1)]) [⟨vb, .obj [.ref 1 v0 6 0 0, .val (.int .i64 (a : Int)), .val (.int .i64 (c : Int))]⟩, ⟨v0, .obj [.own 2 v1 1 0 s.l.length, .val (.int .i64 (s.k : Int)), .val (.int .i64 s.ar), .val (.int .i64 s.pt), .val (.bool s.dd), .val (.int .i64 s.wr)]⟩, ⟨v1, .bytes s.l⟩] [(24, ⟨4, .bytes (s.read ((a : Int) * s.k) n).2⟩)]) := by
 have hi := h.int
 have hl := h.len
 refine spec_entry tbOk Tryz.func147 rfl Tryz.ntmps147 Tryz.results147 ?_
 refine gg (k := ?_)
 (refine sts (k := ?_))
 refine draw_of (p := 3) tbOk hm [0, 1, 3, 7, 0, 16, 48, 112, 0, 256, 768, 1792, 3840, 8176, 0, 32767, 65535, 65535, 262143, 524287] [⟨0, false, false, []⟩, ⟨1, true, false, [8, 9, 10, 11, 12, 13, 14, 15, 16, 17, 18, 19, 20, 21, 22, 23, 4, 5]⟩, ⟨2, true, false, [9, 10, 11, 12, 13, 14, 15, 16, 17, 18, 19, 20, 21, 22, 23, 4, 5]⟩, ⟨3, true, false, [10, 11, 12, 13, 14, 15, 16, 17, 18, 19, 20, 21, 22, 23, 4, 5]⟩, ⟨4, false, false, []⟩, ⟨5, true, false, [6, 7, 8, 9, 12, 13, 14, 15, 16, 17, 18, 19, 20, 21, 22, 23, 4, 5]⟩, ⟨6, true, false, [6, 7, 8, 9, 13, 14, 15, 16, 17, 18, 19, 20, 21, 22, 23, 4, 5]⟩, ⟨7, true, false, [6, 7, 8, 9, 14, 15, 16, 17, 18, 19, 20, 21, 22, 23, 4, 5]⟩, ⟨8, false, false, []⟩, ⟨9, true, false, [6, 7, 8, 9, 10, 11, 12, 13, 16, 17, 18, 19, 20, 21, 22, 23, 4, 5]⟩, ⟨10, true, false, [6, 7, 8, 9, 10, 11, 12, 13, 17, 18, 19, 20, 21, 22, 23, 4, 5]⟩, ⟨11, true, false, [6, 7, 8, 9, 10, 11, 12, 13, 18, 19, 20, 21, 22, 23, 4, 5]⟩, ⟨14, false, false, []⟩, ⟨12, true, false, [6, 7, 8, 9, 10, 11, 12, 13, 19, 20, 21, 22, 23, 4, 5]⟩, ⟨13, false, false, []⟩, ⟨15, true, true, [22, 23, 4, 5]⟩, ⟨16, false, false, []⟩, ⟨17, false, false, []⟩, ⟨18, false, false, []⟩, ⟨19, false, false, []⟩] (by kernel_rfl) ?_
 refine gg (k := ?_)
 refine cdet (spec_size s v0 v1) Tryz.call75 [1, 2] ?_
 refine gg (k := ?_)
 refine cmks (spec_read s hl ((a : Int) * s.k) n (by unfold I64; omega) hn v0 v1) Tryz.call203 2 [1, 2, 0, 0, 0, 0, 0, 0, 0, 0, 0, 0, 0, 0, 0, 0, 0, 0, 0, 0, 0, 0, 0, 0, 0, 0, 0, 0, 0, 0, 24] [0, 0, 0, 0, 0, 0, 0, 0, 0, 0, 0, 0, 0, 0, 0, 0, 0, 0, 0, 0, 0, 0, 0, 0, 0, 0, 0, 0, 0, 0, 1] [30] ?_
 refine gg (k := ?_)
 exact ⟨_, rfl, rfl, rfl, trivial⟩
theorem bprog_vc (s : FlS) (a c : Nat) (h : BOk s a c) (at_ : Int) (ha : I64 (a * s.k + at_)) (m : List UInt8) (hm' : m.length ≤ 140737488355328) (hA2 : I64 s.ar) (hA5 : 0 ≤ s.wr ∧ s.wr + m.length < 9223372036854775807) (z : Nat) (vb v0 v1 : Nat) : Spec Tryz.prog 122 [.ref 0 vb 3 0 0, .val (.int .i64 at_), .bs z m] [⟨vb, .obj [.ref 1 v0 6 0 0, .val (.int .i64 (a : Int)), .val (.int .i64 (c : Int))]⟩, ⟨v0, .obj [.own 2 v1 1 0 s.l.length, .val (.int .i64 (s.k : Int)), .val (.int .i64 s.ar), .val (.int .i64 s.pt), .val (.bool s.dd), .val (.int .i64 s.wr)]⟩, ⟨v1, .bytes s.l⟩]
   (pst (.val (.int .i64 (s.prog ((a : Int) * s.k + at_) m).1)) [⟨vb, .obj [.ref 1 v0 6 0 0, .val (.int .i64 (a : Int)), .val (.int .i64 (c : Int))]⟩, ⟨v0, .obj [.own 2 v1 1 0 (s.prog ((a : Int) * s.k + at_) m).2.l.length, .val (.int .i64 ((s.prog ((a : Int) * s.k + at_) m).2.k : Int)), .val (.int .i64 (s.prog ((a : Int) * s.k + at_) m).2.ar), .val (.int .i64 (s.prog ((a : Int) * s.k + at_) m).2.pt), .val (.bool (s.prog ((a : Int) * s.k + at_) m).2.dd), .val (.int .i64 (s.prog ((a : Int) * s.k + at_) m).2.wr)]⟩, ⟨v1, .bytes (s.prog ((a : Int) * s.k + at_) m).2.l⟩]) := by
 have hi := h.int
 have hl := h.len
 refine spec_entry tbOk Tryz.func122 rfl Tryz.ntmps122 Tryz.results122 ?_
 refine gg (k := ?_)
 (refine sts (k := ?_))
 refine draw_of (p := 3) tbOk hm [0, 1, 3, 7, 0, 16, 48, 112, 0, 256, 768, 1792, 3840, 8176, 0, 32752, 0, 131071, 262143] [⟨0, false, false, []⟩, ⟨1, true, false, [9, 10, 11, 12, 13, 14, 15, 16, 17, 18, 19, 20, 21, 22, 23, 24, 6]⟩, ⟨2, true, false, [10, 11, 12, 13, 14, 15, 16, 17, 18, 19, 20, 21, 22, 23, 24, 6]⟩, ⟨3, true, false, [11, 12, 13, 14, 15, 16, 17, 18, 19, 20, 21, 22, 23, 24, 6]⟩, ⟨4, false, false, []⟩, ⟨5, true, false, [7, 8, 9, 10, 13, 14, 15, 16, 17, 18, 19, 20, 21, 22, 23, 24, 6]⟩, ⟨6, true, false, [7, 8, 9, 10, 14, 15, 16, 17, 18, 19, 20, 21, 22, 23, 24, 6]⟩, ⟨7, true, false, [7, 8, 9, 10, 15, 16, 17, 18, 19, 20, 21, 22, 23, 24, 6]⟩, ⟨8, false, false, []⟩, ⟨9, true, false, [7, 8, 9, 10, 11, 12, 13, 14, 17, 18, 19, 20, 21, 22, 23, 24, 6]⟩, ⟨10, true, false, [7, 8, 9, 10, 11, 12, 13, 14, 18, 19, 20, 21, 22, 23, 24, 6]⟩, ⟨11, true, false, [7, 8, 9, 10, 11, 12, 13, 14, 19, 20, 21, 22, 23, 24, 6]⟩, ⟨14, false, false, []⟩, ⟨16, false, false, []⟩, ⟨12, true, false, [7, 8, 9, 10, 11, 12, 13, 14, 20, 21, 22, 23, 24, 6]⟩, ⟨13, false, false, []⟩, ⟨15, false, false, []⟩, ⟨17, true, true, [6]⟩, ⟨18, false, false, []⟩] (by kernel_rfl) ?_
 refine gg (k := ?_)
 refine cdet (spec_size s v0 v1) Tryz.call75 [1, 2] ?_
 refine gg (k := ?_)
 refine cdet (spec_prog s hl ((a : Int) * s.k + at_) ha m hm' hA2 hA5 z v0 v1) Tryz.call163 [1, 2] ?_
 refine gg (k := ?_)
 exact ⟨_, rfl, rfl⟩
end Go.Proofs.YtmjpbmcbcppkfaaGreatDoor
namespace Go.Proofs.YtmjpbmcbcppkfaaGreatDoor
open Go.RowKit
set_option linter.unusedVariables false
set_option linter.unusedSimpArgs false
set_option maxRecDepth 100000
set_option maxHeartbeats 1500000
theorem progF_spec : ∀ (m : List UInt8) (k : Nat) (c : List UInt8) (left w : Int), I64 left → I64 (progF m k c left w).2.2.1 ∧ w ≤ (progF m k c left w).2.2.2.2 ∧ (progF m k c left w).2.2.2.2 ≤ w + m.length
 | [], _, _, _, _, h => ⟨h, by simp [progF], by simp [progF]⟩
 | b :: m, k, c, left, w, h => by
  rw [progF]
  split
  ·refine ⟨?_, ?_, ?_⟩
   ·simp only [I64] at *; omega
   ·simp
   ·simp only [List.length_cons]; omega
  ·obtain ⟨h1, h2, h3⟩ := progF_spec m (k + 1) (c.set k (c.getD k 0 &&& b)) (if 0 < left then left - 1 else left) (w + 1) (by simp only [I64] at *; split <;> omega)
   refine ⟨h1, by omega, ?_⟩
   simp only [List.length_cons]
   omega
structure Goes (B : Int) (n k : Nat) (s : FlS) : Prop where
 len : n ≤ 4194304
 kk : 0 < k ∧ k ≤ 65536
 ar : I64 s.ar
 pt : 0 ≤ s.pt ∧ I64 s.pt
 wr : 0 ≤ s.wr ∧ s.wr ≤ B
 l : s.l.length = n
 k : s.k = k
theorem Goes.mono {B B' : Int} {n k : Nat} {s : FlS} (h : Goes B n k s) (hB : B ≤ B') : Goes B' n k s :=
 ⟨h.len, h.kk, h.ar, h.pt, ⟨h.wr.1, by have := h.wr.2; omega⟩, h.l, h.k⟩
theorem Goes.prog {B : Int} {n k : Nat} {s : FlS} (h : Goes B n k s) (a : Int) (b : List UInt8) : Goes (B + b.length) n k (s.prog a b).2 := by
 unfold FlS.prog
 split
 ·exact h.mono (by omega)
 ·split
  ·obtain ⟨h1, h2, h3⟩ := progF_spec b a.toNat s.l s.ar s.wr h.ar
   have := h.wr
   refine ⟨h.len, h.kk, h1, h.pt, ⟨?_, ?_⟩, ?_, h.k⟩
   ·simp only; omega
   ·simp only; omega
   ·simp only [progF_length]; exact h.l
  ·exact h.mono (by omega)
theorem Goes.erase {B : Int} {n k : Nat} {s : FlS} (h : Goes B n k s) (a : Int) : Goes (B + 1) n k (s.erase a).2 := by
 unfold FlS.erase
 split
 ·exact h.mono (by omega)
 ·split
  ·have h0 := h.ar
   have h1 := h.wr
   have hl : (if s.goes = true then fillN s.l (a.toNat * s.k) (min s.pt (s.k : Int)).toNat else fillN s.l (a.toNat * s.k) s.k).length = s.l.length := by split <;> simp [fillN_length]
   refine ⟨h.len, h.kk, ?_, h.pt, ⟨?_, ?_⟩, ?_, h.k⟩
   ·simp only [I64] at *; split <;> omega
   ·simp only; split <;> omega
   ·simp only; split <;> omega
   ·simp only [hl]; exact h.l
  ·exact h.mono (by omega)
theorem Goes.on {B : Int} {n k : Nat} {s : FlS} (h : Goes B n k s) : Goes B n k s.on.2 := by
 unfold FlS.on
 split
 ·exact ⟨h.len, h.kk, by show I64 0; unfold I64; omega, h.pt, h.wr, h.l, h.k⟩
 ·exact h
structure Lies (n k a c : Nat) : Prop where
 c1 : 1 ≤ c
 big : 64 ≤ c * k
 fit : a * k + c * k ≤ n
 ac : a ≤ 4194304 ∧ c ≤ 4194304
theorem Goes.bok {B : Int} {n k a c : Nat} {s : FlS} (h : Goes B n k s) (p : Lies n k a c) : BOk s a c := by
 have := h.len; have h1 := h.kk; have h2 := h.l; have h3 := h.k; have h4 := p.fit; have h5 := p.ac
 refine ⟨by omega, by rw [h3]; exact h1, by rw [h3, h2]; exact h4, by omega⟩
theorem bprog_own (s : FlS) (a c : Nat) (h : BOk s a c) (at_ : Int) (ha : I64 (a * s.k + at_)) (m : List UInt8) (n : Nat) (hn : n = m.length) (hm' : m.length ≤ 140737488355328) (hA2 : I64 s.ar) (hA5 : 0 ≤ s.wr ∧ s.wr + m.length < 9223372036854775807) (vb v0 v1 v2 : Nat) : Spec Tryz.prog 122 [.ref 0 vb 3 0 0, .val (.int .i64 at_), .own 3 v2 1 0 n] [⟨vb, .obj [.ref 1 v0 6 0 0, .val (.int .i64 (a : Int)), .val (.int .i64 (c : Int))]⟩, ⟨v0, .obj [.own 2 v1 1 0 s.l.length, .val (.int .i64 (s.k : Int)), .val (.int .i64 s.ar), .val (.int .i64 s.pt), .val (.bool s.dd), .val (.int .i64 s.wr)]⟩, ⟨v1, .bytes s.l⟩, ⟨v2, .bytes m⟩]
   (pms (.val (.int .i64 (s.prog ((a : Int) * s.k + at_) m).1)) [⟨vb, .obj [.ref 1 v0 6 0 0, .val (.int .i64 (a : Int)), .val (.int .i64 (c : Int))]⟩, ⟨v0, .obj [.own 2 v1 1 0 (s.prog ((a : Int) * s.k + at_) m).2.l.length, .val (.int .i64 ((s.prog ((a : Int) * s.k + at_) m).2.k : Int)), .val (.int .i64 (s.prog ((a : Int) * s.k + at_) m).2.ar), .val (.int .i64 (s.prog ((a : Int) * s.k + at_) m).2.pt), .val (.bool (s.prog ((a : Int) * s.k + at_) m).2.dd), .val (.int .i64 (s.prog ((a : Int) * s.k + at_) m).2.wr)]⟩, ⟨v1, .bytes (s.prog ((a : Int) * s.k + at_) m).2.l⟩, ⟨v2, .bytes m⟩] []) := by
 subst hn
 have e := whole m
 have h := spec_rx (spec_pms (bprog_vc s a c h at_ ha ((m.drop 0).take m.length) (by rw [e]; exact hm') hA2 (by rw [e]; exact hA5) 0 vb v0 v1)) (R := [⟨v2, .bytes m⟩]) (args := [.ref 0 vb 3 0 0, .val (.int .i64 at_), .own 3 v2 1 0 m.length])
  trivial ⟨⟨trivial, trivial, trivial, trivial⟩, ⟨trivial, trivial, trivial, trivial, trivial, trivial, trivial⟩, trivial, trivial⟩ ⟨⟨(by decide : 1 < 3), trivial, trivial, trivial⟩, ⟨(by decide : 2 < 3), trivial, trivial, trivial, trivial, trivial, trivial⟩, trivial, trivial⟩ ⟨⟨trivial, trivial, trivial, trivial⟩, ⟨trivial, trivial, trivial, trivial, trivial, trivial, trivial⟩, trivial, trivial⟩ rfl trivial trivial
  (asX_cons (aX_same trivial (by decide : 0 < 3)) (asX_cons (aX_same trivial trivial) (asX_cons (aX_own (q := 0) (l := m) rfl (by omega)) asX_nil)))
 rw [e] at h
 exact h
theorem ready_vc {W : Int} {n k : Nat} (s : FlS) (a c : Nat) (g : Goes W n k s) (hW : W ≤ 9000000000000000000) (p : Lies n k a c) (vb v0 v1 : Nat) : Spec Tryz.prog 117 [.ref 0 vb 3 0 0] [⟨vb, .obj [.ref 1 v0 6 0 0, .val (.int .i64 (a : Int)), .val (.int .i64 (c : Int))]⟩, ⟨v0, .obj [.own 2 v1 1 0 s.l.length, .val (.int .i64 (s.k : Int)), .val (.int .i64 s.ar), .val (.int .i64 s.pt), .val (.bool s.dd), .val (.int .i64 s.wr)]⟩, ⟨v1, .bytes s.l⟩]
   (pms (.val (.int .i64 (s.prog ((a : Int) * s.k + 12) [254]).1)) [⟨vb, .obj [.ref 1 v0 6 0 0, .val (.int .i64 (a : Int)), .val (.int .i64 (c : Int))]⟩, ⟨v0, .obj [.own 2 v1 1 0 (s.prog ((a : Int) * s.k + 12) [254]).2.l.length, .val (.int .i64 ((s.prog ((a : Int) * s.k + 12) [254]).2.k : Int)), .val (.int .i64 (s.prog ((a : Int) * s.k + 12) [254]).2.ar), .val (.int .i64 (s.prog ((a : Int) * s.k + 12) [254]).2.pt), .val (.bool (s.prog ((a : Int) * s.k + 12) [254]).2.dd), .val (.int .i64 (s.prog ((a : Int) * s.k + 12) [254]).2.wr)]⟩, ⟨v1, .bytes (s.prog ((a : Int) * s.k + 12) [254]).2.l⟩] []) := by
 have h := g.bok p
 have hi := h.int
 have hl := h.len
 have hw := g.wr
 refine spec_entry tbOk Tryz.func117 rfl Tryz.ntmps117 Tryz.results117 ?_
 refine gg (k := ?_)
 refine cmks (bprog_own s a c h 12 (by unfold I64; omega) [254] 1 rfl (by decide) g.ar ⟨by omega, by show s.wr + 1 < _; omega⟩ vb v0 v1 1) Tryz.call122 4 [0, 1, 2, 9] [0, 0, 0, 0] [] ?_
 refine gg (k := ?_)
 exact ⟨_, rfl, rfl, trivial⟩
theorem read_cases {W : Int} {n k a c : Nat} {s : FlS} (g : Goes W n k s) (p : Lies n k a c) (m : Nat) (hm : m ≤ c * k) : (s.dd = true ∧ s.read ((a : Int) * s.k) m = (6, [])) ∨ (s.dd = false ∧ s.read ((a : Int) * s.k) m = (0, (s.l.drop (a * k)).take m) ∧ ((s.l.drop (a * k)).take m).length = m) := by
 have h1 := p.fit; have h2 := g.l; have h3 := g.k
 unfold FlS.read
 cases s.dd with
 | true => exact .inl ⟨rfl, by simp⟩
 | false =>
  right
  have e1 : ((a : Int) * s.k) = ((a * k : Nat) : Int) := by rw [h3]; push_cast; rfl
  rw [e1]
  have h4 : 0 ≤ ((a * k : Nat) : Int) ∧ 0 ≤ (m : Int) ∧ ((a * k : Nat) : Int) + (m : Int) ≤ s.l.length := by omega
  simp only [if_pos h4, Bool.false_eq_true, if_false, Int.toNat_natCast]
  refine ⟨trivial, trivial, ?_⟩
  rw [List.length_take, List.length_drop]; omega
def FlS.head (s : FlS) (a : Nat) : Int × Bool × Int := if s.dd then (0, false, 6) else if ((s.l.drop (a * s.k)).take 16).take 12 = headB (numB ((((s.l.drop (a * s.k)).take 16).drop 4).take 4)) then ((numB ((((s.l.drop (a * s.k)).take 16).drop 4).take 4) : Int), decide (((((s.l.drop (a * s.k)).take 16).getD 12 0).toNat : Int) = 254), 0) else (0, false, 0)
theorem number_own (l : List UInt8) (L : Nat) (hL : L = l.length) (hb : l.length ≤ 140737488355328) (v : Nat) (at_ n : Int) (ha : I64 at_) (hn : n = 2 ∨ n = 4) (hw : 0 ≤ at_ ∧ at_ + n ≤ l.length) : Spec Tryz.prog 148 [.own 0 v 1 0 L, .val (.int .i64 at_), .val (.int .i64 n)] [⟨v, .bytes l⟩]
   (pms (.val (.int .i64 (numB ((l.drop at_.toNat).take n.toNat)))) [⟨v, .bytes l⟩] []) := by
 subst hL
 have h := own1 (l := l) 0 l.length (by omega) (spec_pms (number_vc ((l.drop 0).take l.length) (by rw [whole]; exact hb) 0 at_ n ha hn (by rw [whole]; exact hw))) trivial trivial (fun _ => asL_cons as_val (asL_cons as_val asL_nil)) v
 rw [whole] at h
 exact h
theorem equal_own2 (a : List UInt8) (n m : Nat) (hn : n ≤ a.length) (b : List UInt8) (hm' : m = b.length) (v0 v1 : Nat) : Spec Tryz.prog 92 [.own 0 v0 1 0 n, .own 1 v1 1 0 m] [⟨v0, .bytes a⟩, ⟨v1, .bytes b⟩] (pms (.val (.bool (decide (a.take n = b)))) [⟨v0, .bytes a⟩, ⟨v1, .bytes b⟩] []) := by
 subst hm'
 have := spec_ro (spec_pms (equal_vc ((a.drop 0).take n) ((b.drop 0).take b.length) 0 0)) trivial trivial (rows := [⟨v0, .bytes a⟩, ⟨v1, .bytes b⟩]) (args := [.own 0 v0 1 0 n, .own 1 v1 1 0 b.length]) (asL_cons (as_own (l := a) rfl (by omega)) (asL_cons (as_own (l := b) rfl (by omega)) asL_nil))
 rw [whole, List.drop_zero] at this
 exact this
theorem bhead_vc {W : Int} {n k : Nat} (s : FlS) (a c : Nat) (g : Goes W n k s) (p : Lies n k a c) (vb v0 v1 : Nat) : Spec Tryz.prog 114 [.ref 0 vb 3 0 0] [⟨vb, .obj [.ref 1 v0 6 0 0, .val (.int .i64 (a : Int)), .val (.int .i64 (c : Int))]⟩, ⟨v0, .obj [.own 2 v1 1 0 s.l.length, .val (.int .i64 (s.k : Int)), .val (.int .i64 s.ar), .val (.int .i64 s.pt), .val (.bool s.dd), .val (.int .i64 s.wr)]⟩, ⟨v1, .bytes s.l⟩]
   (pms (.tup [.val (.int .u32 (s.head a).1), .val (.bool (s.head a).2.1), .val (.int .i64 (s.head a).2.2)]) [⟨vb, .obj [.ref 1 v0 6 0 0, .val (.int .i64 (a : Int)), .val (.int .i64 (c : Int))]⟩, ⟨v0, .obj [.own 2 v1 1 0 s.l.length, .val (.int .i64 (s.k : Int)), .val (.int .i64 s.ar), .val (.int .i64 s.pt), .val (.bool s.dd), .val (.int .i64 s.wr)]⟩, ⟨v1, .bytes s.l⟩] []) := by
 have h := g.bok p
 have hl := h.len
 have hb := p.big
 refine spec_entry tbOk Tryz.func114 rfl Tryz.ntmps114 Tryz.results114 ?_
 refine gg (k := ?_)
 refine cmks (bread_vc s a c h 16 (by unfold I64; omega) vb v0 v1) Tryz.call147 3 [0, 1, 2, 0, 0, 0, 0, 0, 0, 0, 0, 0, 0, 0, 0, 0, 0, 0, 0, 0, 0, 0, 0, 0, 13] [0, 0, 0, 0, 0, 0, 0, 0, 0, 0, 0, 0, 0, 0, 0, 0, 0, 0, 0, 0, 0, 0, 0, 0, 1] [24] ?_
 rcases read_cases g p 16 (by omega) with ⟨hd, hr⟩ | ⟨hd, hr, hx⟩
 ·rw [show ((16 : Nat) : Int) = 16 from rfl] at hr
  rw [hr]
  refine gg (k := ?_)
  refine ⟨_, ?_, rfl, trivial⟩
  unfold FlS.head; rw [hd]; rfl
 rw [show ((16 : Nat) : Int) = 16 from rfl] at hr
 rw [hr]
 have hx2 : ((s.l.drop (a * s.k)).take 16) = ((s.l.drop (a * k)).take 16) := by rw [g.k]
 unfold FlS.head
 rw [hd, hx2]
 generalize ((s.l.drop (a * k)).take 16) = x at hx hr
 refine gg (k := ?_)
 refine cmks (number_own x x.length rfl (by omega) 5 4 4 (by unfold I64; omega) (.inr rfl) (by omega)) Tryz.call148 1 [13] [0] [] ?_
 have hn := numB_lt ((x.drop 4).take 4)
 have hn2 : ((x.drop 4).take 4).length = 4 := by rw [List.length_take, List.length_drop]; omega
 rw [hn2] at hn
 refine gg (k := ?_)
 (refine sts (k := ?_))
 refine draw_of (p := 3) tbOk hm [0, 1, 0, 4, 15, 31] [⟨0, false, false, []⟩, ⟨1, true, false, [21, 22, 23, 24]⟩, ⟨2, false, false, []⟩, ⟨3, true, false, [19, 20, 23, 24]⟩, ⟨4, true, false, [24]⟩, ⟨5, false, false, []⟩] (by kernel_rfl) ?_
 refine gg (k := ?_)
 have hG : ((numB (List.take (Int.toNat 4) (List.drop (Int.toNat 4) x)) : Nat) : Int) % 4294967296 = (numB ((x.drop 4).take 4) : Nat) := by
  show ((numB (List.take 4 (List.drop 4 x)) : Nat) : Int) % 4294967296 = _
  omega
 rw [hG]
 generalize hGG : numB ((x.drop 4).take 4) = G at hn
 refine cmks (head_vc (G : Int) (by omega)) Tryz.call149 0 [0, 0, 0, 0, 0, 0, 0, 0, 0, 0, 0, 0, 0, 25] [0, 0, 0, 0, 0, 0, 0, 0, 0, 0, 0, 0, 0, 1] [13] ?_
 refine gg (k := ?_)
 refine cmks (equal_own2 x 12 12 (by omega) (headB G) (headB_len _).symm 5 7) Tryz.call92 2 [13, 25] [0, 0] [] ?_
 refine gg (k := ?_)
 refine ⟨fun h => ?_, fun h => ?_⟩
 ·have hne : ¬ x.take 12 = headB G := by simpa using h
  refine gg (k := ?_)
  rw [if_neg hne]
  exact ⟨_, rfl, rfl, trivial⟩
 ·have he : x.take 12 = headB G := by simpa using h
  refine gg (k := ?_)
  (refine sts (k := ?_))
  refine draw_of (p := 3) tbOk hm [0, 0, 2, 6, 14, 1, 63, 127] [⟨0, false, false, []⟩, ⟨1, false, false, []⟩, ⟨2, true, false, [25, 28, 29, 2, 3, 4]⟩, ⟨3, true, false, [25, 29, 2, 3, 4]⟩, ⟨4, false, false, []⟩, ⟨5, false, false, []⟩, ⟨6, false, false, []⟩, ⟨7, false, false, []⟩] (by kernel_rfl) ?_
  refine gg (k := ?_)
  rw [if_pos he]
  exact ⟨_, rfl, rfl, trivial⟩
def FlS.wipe (s : FlS) (a : Nat) : Nat → Int × FlS
 | 0 => (0, s)
 | m + 1 => if (s.wipe a m).1 = 0 then (s.wipe a m).2.erase ((a : Int) + m) else s.wipe a m
def FlS.format (s : FlS) (a c : Nat) (g : Int) : Int × FlS := if (s.wipe a c).1 = 0 then (s.wipe a c).2.prog ((a : Int) * s.k) (headB g) else s.wipe a c
theorem wipe_stop (s : FlS) (a : Nat) {m : Nat} (h : (s.wipe a m).1 ≠ 0) : ∀ d, s.wipe a (m + d) = s.wipe a m
 | 0 => rfl
 | d + 1 => by
  have ih := wipe_stop s a h d
  rw [← Nat.add_assoc, FlS.wipe, ih, if_neg h]
theorem Goes.wipe {B : Int} {n k : Nat} {s : FlS} (h : Goes B n k s) (a : Nat) : ∀ m : Nat, Goes (B + m) n k (s.wipe a m).2
 | 0 => h.mono (by omega)
 | m + 1 => by
  have ih := h.wipe a m
  rw [FlS.wipe]
  split
  ·exact (ih.erase _).mono (by omega)
  ·exact ih.mono (by omega)
theorem format_vc {W : Int} {n k : Nat} (s : FlS) (a c : Nat) (g : Goes W n k s) (hW : W ≤ 9000000000000000000) (p : Lies n k a c) (gen : Int) (hgen : 0 ≤ gen ∧ gen ≤ 4294967295) (vb v0 v1 : Nat) : Spec Tryz.prog 115 [.ref 0 vb 3 0 0, .val (.int .u32 gen)] [⟨vb, .obj [.ref 1 v0 6 0 0, .val (.int .i64 (a : Int)), .val (.int .i64 (c : Int))]⟩, ⟨v0, .obj [.own 2 v1 1 0 s.l.length, .val (.int .i64 (s.k : Int)), .val (.int .i64 s.ar), .val (.int .i64 s.pt), .val (.bool s.dd), .val (.int .i64 s.wr)]⟩, ⟨v1, .bytes s.l⟩]
   (pms (.val (.int .i64 (s.format a c gen).1)) [⟨vb, .obj [.ref 1 v0 6 0 0, .val (.int .i64 (a : Int)), .val (.int .i64 (c : Int))]⟩, ⟨v0, .obj [.own 2 v1 1 0 (s.format a c gen).2.l.length, .val (.int .i64 ((s.format a c gen).2.k : Int)), .val (.int .i64 (s.format a c gen).2.ar), .val (.int .i64 (s.format a c gen).2.pt), .val (.bool (s.format a c gen).2.dd), .val (.int .i64 (s.format a c gen).2.wr)]⟩, ⟨v1, .bytes (s.format a c gen).2.l⟩] []) := by
 have hac := p.ac
 refine spec_entry tbOk Tryz.func115 rfl Tryz.ntmps115 Tryz.results115 ?_
 refine gg (k := ?_)
 (refine sts (k := ?_))
 conv => whnf
 refine loop_at (fun i : Nat => i ≤ c ∧ (s.wipe a i).1 = 0) (fun i => c - i) 3 [4, 5, 6, 13, 14, 15, 16, 17, 18, 19, 20, 21, 22, 23, 24, 25, 26, 27, 28, 29, 30] (fun i => [(13, .val (.int .i64 i))]) (fun i => [(0, ⟨vb, .obj [.ref 1 v0 6 0 0, .val (.int .i64 (a : Int)), .val (.int .i64 (c : Int))]⟩), (1, ⟨v0, .obj [.own 2 v1 1 0 (s.wipe a i).2.l.length, .val (.int .i64 ((s.wipe a i).2.k : Int)), .val (.int .i64 (s.wipe a i).2.ar), .val (.int .i64 (s.wipe a i).2.pt), .val (.bool (s.wipe a i).2.dd), .val (.int .i64 (s.wipe a i).2.wr)]⟩), (2, ⟨v1, .bytes (s.wipe a i).2.l⟩)]) 0 ⟨Nat.zero_le _, rfl⟩ ?_ ?_ ?_
 ·exact no_implicit_lambda% ten
 ·exact no_implicit_lambda% hen
 ·rintro i v ⟨h1, h2⟩
  refine glp (k := ?_)
  refine gg (k := ?_)
  have hS : s.wipe a (i + 1) = (s.wipe a i).2.erase ((a : Int) + i) := by rw [FlS.wipe, if_pos h2]
  have gi := g.wipe a i
  have gi1 := g.wipe a (i + 1)
  have hwi := gi.wr
  refine ⟨fun h => ?_, fun h => ?_⟩
  ·have hi : i < c := by have := of_decide_eq_true h; omega
   refine gg (k := ?_)
   (refine sts (k := ?_))
   refine draw_of (p := 3) tbOk hm [0, 1, 3, 7, 0, 16, 48, 112, 0, 496, 1023, 2047] [⟨0, false, false, []⟩, ⟨1, true, false, [18, 19, 20, 21, 22, 23, 24, 25, 26, 6]⟩, ⟨2, true, false, [19, 20, 21, 22, 23, 24, 25, 26, 6]⟩, ⟨3, true, false, [20, 21, 22, 23, 24, 25, 26, 6]⟩, ⟨4, false, false, []⟩, ⟨5, true, false, [16, 17, 18, 19, 22, 23, 24, 25, 26, 6]⟩, ⟨6, true, false, [16, 17, 18, 19, 23, 24, 25, 26, 6]⟩, ⟨7, true, false, [16, 17, 18, 19, 24, 25, 26, 6]⟩, ⟨8, false, false, []⟩, ⟨9, false, false, []⟩, ⟨10, true, true, [6]⟩, ⟨11, false, false, []⟩] (by kernel_rfl) ?_
   refine gg (k := ?_)
   refine cdet (spec_erase (s.wipe a i).2 (by have := gi.l; have := gi.len; omega) (by rw [gi.k]; exact gi.kk) ((a : Int) + i) (by unfold I64; omega) gi.ar gi.pt ⟨hwi.1, by omega⟩ v0 v1) Tryz.call150 [1, 2] ?_
   rw [← hS]
   refine gg (k := ?_)
   refine ⟨fun h => ?_, fun h => ?_⟩
   ·have hne : (s.wipe a (i + 1)).1 ≠ 0 := by simpa using h
    refine gg (k := ?_)
    have hst := wipe_stop s a hne (c - (i + 1))
    rw [show i + 1 + (c - (i + 1)) = c by omega] at hst
    have hf : s.format a c gen = s.wipe a (i + 1) := by unfold FlS.format; rw [hst, if_neg hne]
    rw [hf]
    exact ⟨_, rfl, rfl, trivial⟩
   ·have he : (s.wipe a (i + 1)).1 = 0 := by simpa using h
    refine gg (k := ?_)
    refine back_at (i + 1) ⟨hi, he⟩ (by show c - (i + 1) < c - i; omega) ?_ ?_
    ·exact no_implicit_lambda% ten
    ·exact no_implicit_lambda% hen
  ·have hi : i = c := by have := of_decide_eq_false h; omega
   subst hi
   refine gg (k := ?_)
   refine cmks (head_vc gen hgen) Tryz.call149 0 [0, 0, 0, 0, 0, 0, 0, 0, 0, 0, 0, 0, 0, 36] [0, 0, 0, 0, 0, 0, 0, 0, 0, 0, 0, 0, 0, 1] [13] ?_
   refine gg (k := ?_)
   have hbk := gi.bok p
   have hbi := hbk.int
   have hbl := hbk.len
   refine cmks (bprog_own (s.wipe a i).2 a i hbk 0 (by unfold I64; omega) (headB gen) 12 (headB_len _).symm (by rw [headB_len]; decide) gi.ar ⟨hwi.1, by rw [headB_len]; omega⟩ vb v0 v1 7) Tryz.call122 4 [0, 1, 2, 36] [0, 0, 0, 0] [] ?_
   refine gg (k := ?_)
   have hf : s.format a i gen = (s.wipe a i).2.prog ((a : Int) * (s.wipe a i).2.k + 0) (headB gen) := by
    unfold FlS.format; rw [if_pos h2, Int.add_zero, gi.k, g.k]
   rw [hf]
   exact ⟨_, rfl, rfl, trivial⟩
end Go.Proofs.YtmjpbmcbcppkfaaGreatDoor
namespace Go.Proofs.YtmjpbmcbcppkfaaGreatDoor
open Go.RowKit
set_option linter.unusedVariables false
set_option linter.unusedSimpArgs false
set_option maxRecDepth 100000
set_option maxHeartbeats 1500000
theorem each_vc (v n : Nat) (x : List UInt8) : Spec Tryz.prog 162 [.own 0 v 1 0 n] [⟨v, .bytes x⟩] (pms (.clo 215 [.ref 2 1 1 0 0]) [⟨v, .bytes x⟩] [(2, ⟨1, .obj [.own 0 v 1 0 n]⟩)]) := by
 refine spec_entry tbOk Tryz.func162 rfl Tryz.ntmps162 Tryz.results162 ?_
 refine gg (k := ?_)
 exact ⟨_, rfl, rfl, rfl, trivial⟩
structure Rc where
 key : List UInt8
 val : List UInt8
 lv : Bool
 at_ : Nat
theorem recN_pos (x : List UInt8) : 12 ≤ recN x := by unfold recN; omega
def scanG (x : List UInt8) (a : Nat) : List Rc × Nat × Bool :=
 if h : a < x.length ∧ x.getD a 0 ≠ 255 then
  if recIs (x.drop a) then (⟨recKey (x.drop a), recVal (x.drop a), recLv (x.drop a), a⟩ :: (scanG x (a + recN (x.drop a))).1, (scanG x (a + recN (x.drop a))).2)
  else ([], a, false)
 else ([], a, true)
termination_by x.length - a
decreasing_by all_goals (have := recN_pos (x.drop a); omega)
theorem scanG_some {x : List UInt8} {a : Nat} (h : a < x.length ∧ x.getD a 0 ≠ 255) (hr : recIs (x.drop a)) : scanG x a = (⟨recKey (x.drop a), recVal (x.drop a), recLv (x.drop a), a⟩ :: (scanG x (a + recN (x.drop a))).1, (scanG x (a + recN (x.drop a))).2) := by
 rw [scanG, dif_pos h, if_pos hr]
theorem scanG_bad {x : List UInt8} {a : Nat} (h : a < x.length ∧ x.getD a 0 ≠ 255) (hr : ¬ recIs (x.drop a)) : scanG x a = ([], a, false) := by
 rw [scanG, dif_pos h, if_neg hr]
theorem scanG_end {x : List UInt8} {a : Nat} (h : ¬ (a < x.length ∧ x.getD a 0 ≠ 255)) : scanG x a = ([], a, true) := by
 rw [scanG, dif_neg h]
structure Rr where
 i : Nat
 kn : Nat
 vn : Nat
 lv : Bool
def rrA (r v : Nat) (y : Rr) : List AV := [.pl r v y.i 0 y.kn, .pl r v (y.i + 1) 0 y.vn, .val (.bool y.lv)]
def rrOf : Nat → List Rc → List Rr
 | _, [] => []
 | i, c :: l => ⟨i, c.key.length, c.val.length, c.lv⟩ :: rrOf (i + 2) l
def poolOf (l : List Rc) : List (List UInt8) := l.flatMap fun c => [c.key, c.val]
theorem rrOf_len : ∀ (l : List Rc) (i : Nat), (rrOf i l).length = l.length
 | [], _ => rfl
 | _ :: l, i => by simp [rrOf, rrOf_len l]
theorem poolOf_len : ∀ (l : List Rc), (poolOf l).length = 2 * l.length
 | [] => rfl
 | c :: l => by
  have := poolOf_len l
  simp only [poolOf, List.flatMap_cons, List.length_append, List.length_cons, List.length_nil] at this ⊢
  omega
theorem rrOf_snoc (c : Rc) : ∀ (l : List Rc) (i : Nat), rrOf i (l ++ [c]) = rrOf i l ++ [⟨i + 2 * l.length, c.key.length, c.val.length, c.lv⟩]
 | [], i => by simp [rrOf]
 | d :: l, i => by
  simp only [List.cons_append, rrOf, rrOf_snoc c l, List.length_cons, List.cons.injEq, true_and]
  rw [show i + 2 + 2 * l.length = i + 2 * (l.length + 1) by omega]
theorem poolOf_snoc (c : Rc) (l : List Rc) : poolOf (l ++ [c]) = poolOf l ++ [c.key] ++ [c.val] := by simp [poolOf]
theorem drop_take (x : List UInt8) (o : Nat) : (x.drop o).take (x.length - o) = x.drop o := by rw [List.take_of_length_le]; rw [List.length_drop]; exact Nat.le_refl _
theorem parse_own_some (x : List UInt8) (hx : x.length ≤ 140737488355328) (o n v : Nat) (ho : o ≤ x.length) (hn : n = x.length - o) (y : List UInt8) (hy : y = x.drop o) (h : recIs y) : Spec Tryz.prog 216 [.own 0 v 1 o n] [⟨v, .bytes x⟩]
    (pms (.tup [.agg [.own 55 3 1 0 (recKey y).length, .own 61 3 1 0 (recVal y).length, .val (.bool (recLv y))], .val (.int .i64 (recN y))]) [⟨v, .bytes x⟩] [(55, ⟨3, .bytes (recKey y)⟩), (61, ⟨3, .bytes (recVal y)⟩)]) := by
 subst hn hy
 have := own1 (l := x) o (x.length - o) (by omega) (parse_some 0 ((x.drop o).take (x.length - o)) (by rw [drop_take, List.length_drop]; omega) (by rw [drop_take]; exact h)) ⟨⟨trivial, trivial, trivial, trivial⟩, trivial, trivial⟩ ⟨trivial, trivial, trivial⟩ (fun _ => asL_nil) v
 rw [drop_take] at this
 exact this
theorem parse_own_none (x : List UInt8) (hx : x.length ≤ 140737488355328) (o n v : Nat) (ho : o ≤ x.length) (hn : n = x.length - o) (h : ¬ recIs (x.drop o)) : Spec Tryz.prog 216 [.own 0 v 1 o n] [⟨v, .bytes x⟩]
    (pms (.tup [zeroRec, .val (.int .i64 0)]) [⟨v, .bytes x⟩] []) := by
 subst hn
 have := own1 (l := x) o (x.length - o) (by omega) (parse_none 0 ((x.drop o).take (x.length - o)) (by rw [drop_take, List.length_drop]; omega) (by rw [drop_take]; exact h)) ⟨⟨trivial, trivial, trivial, trivial⟩, trivial, trivial⟩ trivial (fun _ => asL_nil) v
 exact this
structure SY where
 at_ : Nat
 rs : List Rc
theorem scan_live {W : Int} {n k : Nat} (s : FlS) (a c : Nat) (g : Goes W n k s) (p : Lies n k a c) (hd : s.dd = false) (x : List UInt8) (hx : x = (s.l.drop (a * k)).take (c * k)) (vb v0 v1 : Nat) : Spec Tryz.prog 121 [.ref 0 vb 3 0 0] [⟨vb, .obj [.ref 1 v0 6 0 0, .val (.int .i64 (a : Int)), .val (.int .i64 (c : Int))]⟩, ⟨v0, .obj [.own 2 v1 1 0 s.l.length, .val (.int .i64 (s.k : Int)), .val (.int .i64 s.ar), .val (.int .i64 s.pt), .val (.bool s.dd), .val (.int .i64 s.wr)]⟩, ⟨v1, .bytes s.l⟩]
   (pms (.tup [.own 94 ((scanG x 16).1.length + 1) 3 0 (scanG x 16).1.length, .own 98 ((scanG x 16).1.length + 1) 1 0 (scanG x 16).1.length, .val (.int .i64 ((scanG x 16).2.1 : Int)), .val (.bool (scanG x 16).2.2), .val (.int .i64 0)]) [⟨vb, .obj [.ref 1 v0 6 0 0, .val (.int .i64 (a : Int)), .val (.int .i64 (c : Int))]⟩, ⟨v0, .obj [.own 2 v1 1 0 s.l.length, .val (.int .i64 (s.k : Int)), .val (.int .i64 s.ar), .val (.int .i64 s.pt), .val (.bool s.dd), .val (.int .i64 s.wr)]⟩, ⟨v1, .bytes s.l⟩]
    [(94, ⟨(scanG x 16).1.length + 1, .row 3 (rrA 104 1) ⟨0, 0, 0, false⟩ (rrOf 0 (scanG x 16).1)⟩), (98, ⟨(scanG x 16).1.length + 1, .row 1 (intF .i64) 0 ((scanG x 16).1.map fun c => (c.at_ : Int))⟩), (104, ⟨1, .pool (poolOf (scanG x 16).1)⟩)]) := by
 have h := g.bok p
 have hi := h.int
 have hl := h.len
 have hb := p.big
 have hfit := p.fit
 have hnl := g.len
 refine spec_entryR tbOk Tryz.func121 rfl Tryz.ntmps121 Tryz.results121 60 104 ?_
 refine gg (k := ?_)
 refine cdet (bsize_vc s a c h vb v0 v1) Tryz.call113 [0, 1, 2] ?_
 refine gg (k := ?_)
 refine callK_pool 104 ?_
 refine cmks (bread_vc s a c h ((c : Int) * s.k) (by unfold I64; omega) vb v0 v1) Tryz.call147 3 [0, 1, 2, 0, 0, 0, 0, 0, 0, 0, 0, 0, 0, 0, 0, 0, 0, 0, 0, 0, 0, 0, 0, 0, 74] [0, 0, 0, 0, 0, 0, 0, 0, 0, 0, 0, 0, 0, 0, 0, 0, 0, 0, 0, 0, 0, 0, 0, 0, 1] [24] ?_
 refine ⟨0, rfl, ?_⟩
 have hr : s.read ((a : Int) * s.k) ((c : Int) * s.k) = (0, x) := by
  rcases read_cases g p (c * k) (Nat.le_refl _) with ⟨q, _⟩ | ⟨_, q, _⟩
  ·rw [hd] at q; cases q
  ·rw [hx, ← q, g.k]; push_cast; rfl
 have hxl : x.length = c * k := by
  rcases read_cases g p (c * k) (Nat.le_refl _) with ⟨q, _⟩ | ⟨_, _, q⟩
  ·rw [hd] at q; cases q
  ·rw [hx]; exact q
 rw [hr]
 refine gg (k := ?_)
 refine cmks (each_vc 5 x.length x) Tryz.call162 1 [74, 0, 81] [0, 0, 1] [2] ?_
 refine gg (k := ?_)
 (refine sts (k := ?_))
 conv => whnf
 refine range_of tbOk (p' := 3) (m := 0) 103 0 rfl trivial Tryz.func215 rfl Tryz.ntmps215 Tryz.results215 Tryz.call215 (by kernel_rfl) rfl ?_
 intro i hps0 hasn0 hbody0
 have hI : Go.RowKit.Hid _ := And.intro hps0 (And.intro hasn0 hbody0)
 clear hps0 hasn0 hbody0
 (refine sts (k := ?_))
 refine gg (k := ?_)
 (refine sts (k := ?_))
 conv => whnf
 refine loop_le (leS_trans (leS_nilB (b := 62) (r := 94) (v' := 1) (sz := 3) (bd' := .row 3 (rrA 104 1) ⟨0, 0, 0, false⟩ []) rfl rfl rfl (by decide) rfl) (leS_nilB (b := 63) (r := 98) (v' := 1) (sz := 1) (bd' := .row 1 (intF .i64) 0 []) rfl rfl rfl (by decide) rfl)) ?_
 dsimp only [setL]
 refine loop_at (fun y : SY => 16 ≤ y.at_ ∧ y.at_ ≤ x.length ∧ 12 * y.rs.length ≤ y.at_ ∧ scanG x 16 = (y.rs ++ (scanG x y.at_).1, (scanG x y.at_).2)) (fun y => x.length - y.at_) 3 [3, 4, 5, 6, 7, 8, 9, 10, 11, 12, 13, 14, 15, 16, 17, 18, 19, 20, 21, 22, 23, 24, 25, 26, 27, 28, 29, 30, 31, 32, 33, 34, 35, 36, 37, 66, 90, 94, 102, 103]
  (fun y => [(3, .val (.int .i64 (y.at_ : Int)))])
  (fun y => [(62, ⟨1, .obj [.own 94 (y.rs.length + 1) 3 0 y.rs.length]⟩), (63, ⟨1, .obj [.own 98 (y.rs.length + 1) 1 0 y.rs.length]⟩), (94, ⟨y.rs.length + 1, .row 3 (rrA 104 1) ⟨0, 0, 0, false⟩ (rrOf 0 y.rs)⟩), (98, ⟨y.rs.length + 1, .row 1 (intF .i64) 0 (y.rs.map fun c => (c.at_ : Int))⟩), (104, ⟨1, .pool (poolOf y.rs)⟩)])
  ⟨16, []⟩ ⟨Nat.le_refl _, by show 16 ≤ x.length; omega, by show 12 * 0 ≤ 16; omega, by simp⟩ ?_ ?_ ?_
 ·exact no_implicit_lambda% ten
 ·exact no_implicit_lambda% hen
 ·rintro ⟨at_, rs⟩ v ⟨h1, h2, h3, h4⟩
  simp only at h1 h2 h3 h4
  refine glp (k := ?_)
  refine gg (k := ?_)
  have hat : 0 + ((at_ : Int)).toNat = at_ := by omega
  refine ⟨fun h => ?_, fun h => ?_⟩
  ·have hlt : at_ < x.length ∧ x.getD at_ 0 ≠ 255 := by
     rw [Bool.and_eq_true, Bool.not_eq_true', decide_eq_false_iff_not, hat] at h
     refine ⟨by have := of_decide_eq_true h.1; omega, fun q => h.2 ?_⟩
     rw [q]; rfl
   have hN := recN_pos (x.drop at_)
   refine gg (k := ?_)
   by_cases hrec : recIs (x.drop at_)
   ·have hrn : recN (x.drop at_) ≤ x.length - at_ := by have := hrec.2.2.2.2.2.1; rw [List.length_drop] at this; exact this
    refine callK_move 106 104 ?_
    refine callK_move 105 104 ?_
    refine cmks (parse_own_some x (by omega) (0 + ((at_ : Int)).toNat) (((x.length - ((at_ : Int)).toNat))) 5 (by omega) (by omega) (x.drop at_) (by rw [hat]) hrec) Tryz.call216 (hz := fun r hr => by (obtain rfl : r = 0 := by omega); rfl) (had := ⟨⟨_, rfl, Nat.lt_succ_self _⟩, ⟨_, rfl, Nat.lt_succ_self _⟩, trivial⟩) 1 [74, 0, 0, 0, 0, 0, 0, 0, 0, 0, 0, 0, 0, 0, 0, 0, 0, 0, 0, 0, 0, 0, 0, 0, 0, 0, 0, 0, 0, 0, 0, 0, 0, 0, 0, 0, 0, 0, 0, 0, 0, 0, 0, 0, 0, 0, 0, 0, 0, 0, 0, 0, 0, 0, 0, 105, 0, 0, 0, 0, 0, 106] [0, 0, 0, 0, 0, 0, 0, 0, 0, 0, 0, 0, 0, 0, 0, 0, 0, 0, 0, 0, 0, 0, 0, 0, 0, 0, 0, 0, 0, 0, 0, 0, 0, 0, 0, 0, 0, 0, 0, 0, 0, 0, 0, 0, 0, 0, 0, 0, 0, 0, 0, 0, 0, 0, 0, (v 105 + 1), 0, 0, 0, 0, 0, (v 106 + 1)] [55, 61] ?_
    refine ⟨_, _, _, _, rfl, rfl, _, _, _, _, rfl, rfl, ?_⟩
    have b1 : Nat.beq 106 105 = false := rfl
    have b2 : Nat.beq 105 105 = true := rfl
    have b3 : Nat.beq 106 106 = true := rfl
    have b4 : Nat.beq 1 1 = true := rfl
    dsimp only [renA, renAs, rl2, rl.getN']
    simp only [mvA, mvAs, Nat.beq_refl, b1, b2, b3, b4, Bool.and_true, Bool.and_self, Bool.false_and, cond_true, cond_false]
    have hp1 : (poolOf rs ++ [recKey (x.drop at_)]).length = 2 * rs.length + 1 := by rw [List.length_append, poolOf_len]; rfl
    rw [hp1, poolOf_len rs]
    refine gg (k := ?_)
    conv => whnf
    obtain ⟨hps, hasn, hbody⟩ : _ ∧ _ ∧ _ := hI
    refine yield_of (args := [.val (.int .i64 (at_ : Int)), .agg [.pl 104 1 (2 * rs.length) 0 (recKey (x.drop at_)).length, .pl 104 1 (2 * rs.length + 1) 0 (recVal (x.drop at_)).length, .val (.bool (recLv (x.drop at_)))]]) tbOk (p := 60) (i := i) rfl (by rw [hasn]; rfl) (by rw [hbody]; rfl) (by rw [hps]; rfl) ?_
    have hpl : i.ps.toList = [22, 23] := by rw [hps]
    rw [hasn, hbody, hpl]
    clear hpl; clear hps hasn hbody
    dsimp only [putPs, setL]
    have hkl : (recKey (x.drop at_)).length = recK (x.drop at_) := by
     have := hrec.2.2.2.2.2.1
     unfold recN at this
     unfold recKey; rw [List.length_drop, List.length_take]; omega
    have hk1 := hrec.2.2.1
    refine gg (k := ?_)
    (refine sts (k := ?_))
    refine draw_of (p := 60) tbOk hm [0, 0, 2, 7, 0, 0, 32, 127, 255, 511] [⟨0, true, false, [32, 33, 34, 35, 36, 37, 38]⟩, ⟨1, true, false, [31, 33, 34, 35, 36, 37, 38]⟩, ⟨2, true, false, [31, 34, 35, 36, 37, 38]⟩, ⟨3, true, false, [35, 36, 37, 38]⟩, ⟨4, true, false, [31, 32, 33, 34, 36, 37, 38]⟩, ⟨5, false, false, []⟩, ⟨6, true, false, [31, 32, 33, 34, 35, 38]⟩, ⟨7, true, false, []⟩, ⟨8, true, true, []⟩, ⟨9, true, true, []⟩] (by kernel_rfl) ?_
    refine gg (k := ?_)
    conv => whnf
    obtain ⟨R, hR⟩ : ∃ R : List Rc, R = rs ++ [⟨recKey (x.drop at_), recVal (x.drop at_), recLv (x.drop at_), at_⟩] := ⟨_, rfl⟩
    have hRl : R.length = rs.length + 1 := by rw [hR]; simp
    have hRp : poolOf R = poolOf rs ++ [recKey (x.drop at_)] ++ [recVal (x.drop at_)] := by rw [hR, poolOf_snoc]
    have hRr : rrOf 0 R = rrOf 0 rs ++ [⟨2 * rs.length, (recKey (x.drop at_)).length, (recVal (x.drop at_)).length, recLv (x.drop at_)⟩] := by rw [hR, rrOf_snoc, Nat.zero_add]
    have hRa : (R.map fun c => (c.at_ : Int)) = (rs.map fun c => (c.at_ : Int)) ++ [(at_ : Int)] := by rw [hR]; simp
    refine ⟨Rr, rrA 104 1, ⟨0, 0, 0, false⟩, rrOf 0 R, ?_⟩
    conv => whnf
    refine And.intro ?_ ?_
    ·refine ⟨rfl, ⟨rfl, rfl, Nat.le_refl _, fun q hq => (by (have hq0 : q = 0 := by simpa using hq); subst hq0; exact ⟨rfl, rfl, rfl, trivial⟩)⟩, rfl, rfl, rfl, (rrOf_len rs 0).symm, .inr rfl, ?_, ?_, by decide⟩
     ·rw [hRr, List.map_append]; rfl
     ·rw [rrOf_len, hRl]
      show (rs.length + 1) * 56 ≤ _
      omega
    refine gg (k := ?_)
    conv => whnf
    refine ⟨Int, intF .i64, 0, R.map fun c => (c.at_ : Int), ?_⟩
    conv => whnf
    refine And.intro ?_ ?_
    ·refine ⟨rfl, ⟨rfl, rfl, Nat.le_refl _, fun q _ => ⟨rfl, trivial⟩⟩, rfl, rfl, rfl, by simp, .inr rfl, ?_, ?_, by decide⟩
     ·rw [hRa, List.map_append]; rfl
     ·rw [List.length_map, hRl]
      show (rs.length + 1) * 8 ≤ _
      omega
    refine gg (k := ?_)
    have hN2 : x.length - (at_ + recN (x.drop at_)) < x.length - at_ := by omega
    dsimp only [opsW, thenK, blkK]
    refine back_at (σ := SY) ⟨at_ + recN (x.drop at_), R⟩ ⟨by show 16 ≤ at_ + _; omega, by show at_ + _ ≤ _; omega, by show 12 * R.length ≤ at_ + _; rw [hRl]; omega, ?_⟩ hN2 ?_ ?_
    ·show scanG x 16 = (R ++ (scanG x (at_ + recN (x.drop at_))).1, (scanG x (at_ + recN (x.drop at_))).2)
     rw [h4, scanG_some hlt hrec, hR]
     simp
    ·exact no_implicit_lambda% ten
    ·dsimp only [lpS, deadH, putH, setL, Nat.reduceAdd, Nat.zero_add]
     rw [rrOf_len, List.length_map, hRl, hRp]
     exact no_implicit_lambda% hen
   ·refine cmks (parse_own_none x (by omega) (0 + ((at_ : Int)).toNat) (((x.length - ((at_ : Int)).toNat))) 5 (by omega) (by omega) (by rw [hat]; exact hrec)) Tryz.call216 1 [74] [0] [] ?_
    refine gg (k := ?_)
    conv => whnf
    obtain ⟨hps, hasn, hbody⟩ : _ ∧ _ ∧ _ := hI
    refine yield_of (args := [.val (.int .i64 (at_ : Int)), zeroRec]) tbOk (p := 60) (i := i) rfl (by rw [hasn]; rfl) (by rw [hbody]; rfl) (by rw [hps]; rfl) ?_
    have hpl : i.ps.toList = [22, 23] := by rw [hps]
    rw [hasn, hbody, hpl]
    clear hpl; clear hps hasn hbody
    unfold zeroRec
    dsimp only [putPs, setL]
    refine gg (k := ?_)
    (refine sts (k := ?_))
    refine draw_of (p := 60) tbOk hm [0, 0, 2, 1, 15] [⟨0, false, false, []⟩, ⟨1, false, false, [9]⟩, ⟨2, false, false, [9]⟩, ⟨3, true, true, [9, 29, 30]⟩, ⟨4, true, true, []⟩] (by kernel_rfl) ?_
    refine gg (k := ?_)
    refine ⟨_, rfl, ?_⟩
    refine gg (k := ?_)
    (refine sts (k := ?_))
    refine draw_of (p := 60) tbOk hm [0, 0, 0, 0, 1, 19, 55, 127, 255] [⟨0, true, false, [40, 41, 42, 6]⟩, ⟨1, false, false, [3]⟩, ⟨2, false, false, [4]⟩, ⟨3, false, false, [5]⟩, ⟨4, true, true, [5, 4, 3, 40, 41, 42, 6]⟩, ⟨5, true, true, [5, 4, 41, 42, 6]⟩, ⟨6, true, true, [5, 42, 6]⟩, ⟨7, true, true, [6]⟩, ⟨8, false, false, []⟩] (by kernel_rfl) ?_
    refine gg (k := ?_)
    (refine sts (k := ?_))
    have hG : scanG x 16 = (rs, at_, false) := by rw [h4, scanG_bad hlt hrec]; simp
    refine ⟨_, leS_refl _, by simp [noYs, noY], by simp [noHs, noB, noYs, noY, rrA, intF, takeL, dropL], ?_⟩
    refine gg (k := ?_)
    rw [hG]
    exact ⟨_, rfl, rfl, rfl, rfl, rfl, trivial⟩
  ·have hend : ¬ (at_ < x.length ∧ x.getD at_ 0 ≠ 255) := by
     rw [hat] at h
     rintro ⟨q1, q2⟩
     rw [decide_eq_true (by omega : (at_ : Int) < (x.length : Int)), Bool.true_and, Bool.not_eq_false', decide_eq_true_eq] at h
     exact q2 (UInt8.toNat_inj.1 (by exact_mod_cast h))
   refine gg (k := ?_)
   conv => whnf
   obtain ⟨hps, hasn, hbody⟩ : _ ∧ _ ∧ _ := hI
   refine yield_of (args := [.val (.int .i64 (at_ : Int)), .agg [.val (.slice none 0 0), .val (.slice none 0 0), .val (.bool true)]]) tbOk (p := 60) (i := i) rfl (by rw [hasn]; rfl) (by rw [hbody]; rfl) (by rw [hps]; rfl) ?_
   have hpl : i.ps.toList = [22, 23] := by rw [hps]
   rw [hasn, hbody, hpl]
   clear hpl; clear hps hasn hbody
   dsimp only [putPs, setL]
   refine gg (k := ?_)
   (refine sts (k := ?_))
   refine draw_of (p := 60) tbOk hm [0, 0, 2, 1, 15] [⟨0, false, false, []⟩, ⟨1, false, false, [9]⟩, ⟨2, false, false, [9]⟩, ⟨3, true, true, [9, 29, 30]⟩, ⟨4, true, true, []⟩] (by kernel_rfl) ?_
   refine gg (k := ?_)
   refine ⟨_, rfl, ?_⟩
   refine gg (k := ?_)
   (refine sts (k := ?_))
   refine draw_of (p := 60) tbOk hm [0, 0, 0, 0, 1, 19, 55, 127, 255] [⟨0, true, false, [40, 41, 42, 6]⟩, ⟨1, false, false, [3]⟩, ⟨2, false, false, [4]⟩, ⟨3, false, false, [5]⟩, ⟨4, true, true, [5, 4, 3, 40, 41, 42, 6]⟩, ⟨5, true, true, [5, 4, 41, 42, 6]⟩, ⟨6, true, true, [5, 42, 6]⟩, ⟨7, true, true, [6]⟩, ⟨8, false, false, []⟩] (by kernel_rfl) ?_
   refine gg (k := ?_)
   (refine sts (k := ?_))
   have hG : scanG x 16 = (rs, at_, true) := by rw [h4, scanG_end hend]; simp
   refine ⟨_, leS_refl _, by simp [noYs, noY], by simp [noHs, noB, noYs, noY, rrA, intF, takeL, dropL], ?_⟩
   refine gg (k := ?_)
   rw [hG]
   exact ⟨_, rfl, rfl, rfl, rfl, rfl, trivial⟩
theorem scan_dead {W : Int} {n k : Nat} (s : FlS) (a c : Nat) (g : Goes W n k s) (p : Lies n k a c) (hd : s.dd = true) (vb v0 v1 : Nat) : Spec Tryz.prog 121 [.ref 0 vb 3 0 0] [⟨vb, .obj [.ref 1 v0 6 0 0, .val (.int .i64 (a : Int)), .val (.int .i64 (c : Int))]⟩, ⟨v0, .obj [.own 2 v1 1 0 s.l.length, .val (.int .i64 (s.k : Int)), .val (.int .i64 s.ar), .val (.int .i64 s.pt), .val (.bool s.dd), .val (.int .i64 s.wr)]⟩, ⟨v1, .bytes s.l⟩]
   (pms (.tup [.val (.slice none 0 0), .val (.slice none 0 0), .val (.int .i64 0), .val (.bool false), .val (.int .i64 6)]) [⟨vb, .obj [.ref 1 v0 6 0 0, .val (.int .i64 (a : Int)), .val (.int .i64 (c : Int))]⟩, ⟨v0, .obj [.own 2 v1 1 0 s.l.length, .val (.int .i64 (s.k : Int)), .val (.int .i64 s.ar), .val (.int .i64 s.pt), .val (.bool s.dd), .val (.int .i64 s.wr)]⟩, ⟨v1, .bytes s.l⟩] []) := by
 have h := g.bok p
 have hi := h.int
 have hl := h.len
 refine spec_entryR tbOk Tryz.func121 rfl Tryz.ntmps121 Tryz.results121 60 104 ?_
 refine gg (k := ?_)
 refine cdet (bsize_vc s a c h vb v0 v1) Tryz.call113 [0, 1, 2] ?_
 refine gg (k := ?_)
 refine cmks (bread_vc s a c h ((c : Int) * s.k) (by unfold I64; omega) vb v0 v1) Tryz.call147 3 [0, 1, 2, 0, 0, 0, 0, 0, 0, 0, 0, 0, 0, 0, 0, 0, 0, 0, 0, 0, 0, 0, 0, 0, 74] [0, 0, 0, 0, 0, 0, 0, 0, 0, 0, 0, 0, 0, 0, 0, 0, 0, 0, 0, 0, 0, 0, 0, 0, 1] [24] ?_
 have hr : s.read ((a : Int) * s.k) ((c : Int) * s.k) = (6, []) := by unfold FlS.read; rw [hd]; rfl
 rw [hr]
 refine gg (k := ?_)
 (refine sts (k := ?_))
 refine ⟨_, leS_refl _, by simp [noYs, noY], by simp [noHs, noB, noYs, noY, takeL, dropL], ?_⟩
 refine gg (k := ?_)
 exact ⟨_, rfl, rfl, trivial⟩
end Go.Proofs.YtmjpbmcbcppkfaaGreatDoor
namespace Go.Proofs.YtmjpbmcbcppkfaaGreatDoor
open Go.RowKit
set_option linter.unusedVariables false
set_option linter.unusedSimpArgs false
set_option maxRecDepth 100000
set_option maxHeartbeats 1500000
def FlS.bank (s : FlS) (a c : Nat) : List UInt8 := (s.l.drop (a * s.k)).take (c * s.k)
def FlS.scan (s : FlS) (a c : Nat) : List Rc × Nat × Bool := scanG (s.bank a c) 16
theorem Scan_dead {W : Int} {n k : Nat} (s : FlS) (a c : Nat) (g : Goes W n k s) (p : Lies n k a c) (hd : s.dd = true) (vb v0 v1 : Nat) : Spec Tryz.prog 88 [.ref 0 vb 3 0 0] [⟨vb, .obj [.ref 1 v0 6 0 0, .val (.int .i64 (a : Int)), .val (.int .i64 (c : Int))]⟩, ⟨v0, .obj [.own 2 v1 1 0 s.l.length, .val (.int .i64 (s.k : Int)), .val (.int .i64 s.ar), .val (.int .i64 s.pt), .val (.bool s.dd), .val (.int .i64 s.wr)]⟩, ⟨v1, .bytes s.l⟩]
   (pms (.tup [.val (.slice none 0 0), .val (.int .i64 0), .val (.bool false), .val (.int .i64 6)]) [⟨vb, .obj [.ref 1 v0 6 0 0, .val (.int .i64 (a : Int)), .val (.int .i64 (c : Int))]⟩, ⟨v0, .obj [.own 2 v1 1 0 s.l.length, .val (.int .i64 (s.k : Int)), .val (.int .i64 s.ar), .val (.int .i64 s.pt), .val (.bool s.dd), .val (.int .i64 s.wr)]⟩, ⟨v1, .bytes s.l⟩] []) := by
 refine spec_entry tbOk Tryz.func88 rfl Tryz.ntmps88 Tryz.results88 ?_
 refine gg (k := ?_)
 refine cmks (scan_dead s a c g p hd vb v0 v1) Tryz.call121 3 [0, 1, 2] [0, 0, 0] [] ?_
 refine gg (k := ?_)
 exact ⟨_, rfl, rfl, trivial⟩
theorem Scan_live {W : Int} {n k : Nat} (s : FlS) (a c : Nat) (g : Goes W n k s) (p : Lies n k a c) (hd : s.dd = false) (L : Nat) (hL : L = (s.scan a c).1.length) (vb v0 v1 : Nat) : Spec Tryz.prog 88 [.ref 0 vb 3 0 0] [⟨vb, .obj [.ref 1 v0 6 0 0, .val (.int .i64 (a : Int)), .val (.int .i64 (c : Int))]⟩, ⟨v0, .obj [.own 2 v1 1 0 s.l.length, .val (.int .i64 (s.k : Int)), .val (.int .i64 s.ar), .val (.int .i64 s.pt), .val (.bool s.dd), .val (.int .i64 s.wr)]⟩, ⟨v1, .bytes s.l⟩]
   (pms (.tup [.own 13 (L + 2) 3 0 L, .val (.int .i64 ((s.scan a c).2.1 : Int)), .val (.bool (s.scan a c).2.2), .val (.int .i64 0)]) [⟨vb, .obj [.ref 1 v0 6 0 0, .val (.int .i64 (a : Int)), .val (.int .i64 (c : Int))]⟩, ⟨v0, .obj [.own 2 v1 1 0 s.l.length, .val (.int .i64 (s.k : Int)), .val (.int .i64 s.ar), .val (.int .i64 s.pt), .val (.bool s.dd), .val (.int .i64 s.wr)]⟩, ⟨v1, .bytes s.l⟩]
    [(13, ⟨L + 2, .row 3 (rrA 14 2) ⟨0, 0, 0, false⟩ (rrOf 0 (s.scan a c).1)⟩), (14, ⟨2, .pool (poolOf (s.scan a c).1)⟩)]) := by
 subst hL
 have hx : s.bank a c = (s.l.drop (a * k)).take (c * k) := by unfold FlS.bank; rw [g.k]
 refine spec_entry tbOk Tryz.func88 rfl Tryz.ntmps88 Tryz.results88 ?_
 refine gg (k := ?_)
 refine cmks (scan_live s a c g p hd _ hx vb v0 v1) Tryz.call121 (he := ⟨fun _ => ⟨rfl, rfl, trivial, trivial⟩, fun _ => ⟨trivial, trivial⟩, trivial, trivial⟩) 3 [0, 1, 2, 0, 0, 0, 0, 0, 0, 0, 0, 0, 0, 0, 0, 0, 0, 0, 0, 0, 0, 0, 0, 0, 0, 0, 0, 0, 0, 0, 0, 0, 0, 0, 0, 0, 0, 0, 0, 0, 0, 0, 0, 0, 0, 0, 0, 0, 0, 0, 0, 0, 0, 0, 0, 0, 0, 0, 0, 0, 0, 0, 0, 0, 0, 0, 0, 0, 0, 0, 0, 0, 0, 0, 0, 0, 0, 0, 0, 0, 0, 0, 0, 0, 0, 0, 0, 0, 0, 0, 0, 0, 0, 0, 13, 0, 0, 0, 15, 0, 0, 0, 0, 0, 14] [0, 0, 0, 0, 0, 0, 0, 0, 0, 0, 0, 0, 0, 0, 0, 0, 0, 0, 0, 0, 0, 0, 0, 0, 0, 0, 0, 0, 0, 0, 0, 0, 0, 0, 0, 0, 0, 0, 0, 0, 0, 0, 0, 0, 0, 0, 0, 0, 0, 0, 0, 0, 0, 0, 0, 0, 0, 0, 0, 0, 0, 0, 0, 0, 0, 0, 0, 0, 0, 0, 0, 0, 0, 0, 0, 0, 0, 0, 0, 0, 0, 0, 0, 0, 0, 0, 0, 0, 0, 0, 0, 0, 0, 0, 1, 0, 0, 0, 1, 0, 0, 0, 0, 0, 1] [94, 98, 104] ?_
 refine gg (k := ?_)
 exact ⟨_, rfl, rfl, rfl, rfl, trivial⟩
theorem scanG_le (x : List UInt8) : ∀ (n a : Nat), x.length - a = n → (∀ r ∈ (scanG x a).1, r.at_ < x.length) ∧ (a ≤ x.length → (scanG x a).2.1 ≤ x.length) := by
 intro n
 induction n using Nat.strongRecOn with
 | _ n ih =>
  intro a ha
  by_cases h : a < x.length ∧ x.getD a 0 ≠ 255
  ·by_cases hr : recIs (x.drop a)
   ·rw [scanG_some h hr]
    have hN := recN_pos (x.drop a)
    obtain ⟨h1, h2⟩ := ih (x.length - (a + recN (x.drop a))) (by omega) (a + recN (x.drop a)) rfl
    refine ⟨fun r hm => ?_, fun _ => h2 ?_⟩
    ·rcases List.mem_cons.1 hm with rfl | hm
     ·exact h.1
     ·exact h1 r hm
    ·have := hr.2.2.2.2.2.1
     rw [List.length_drop] at this; omega
   ·rw [scanG_bad h hr]
    exact ⟨by simp, fun h => h⟩
  ·rw [scanG_end h]
   exact ⟨by simp, fun h => h⟩
def FlS.kill (s : FlS) (a c : Nat) (i : Int) : Int × FlS := if s.dd then (6, s) else if i < 0 ∨ ((s.scan a c).1.length : Int) ≤ i then (1, s) else s.prog ((a : Int) * s.k + (((s.scan a c).1.map fun r => (r.at_ : Int)).getD i.toNat 0)) [248]
theorem kill_vc {W : Int} {n k : Nat} (s : FlS) (a c : Nat) (g : Goes W n k s) (hW : W ≤ 9000000000000000000) (p : Lies n k a c) (i : Int) (hi : I64 i) (vb v0 v1 : Nat) : Spec Tryz.prog 85 [.ref 0 vb 3 0 0, .val (.int .i64 i)] [⟨vb, .obj [.ref 1 v0 6 0 0, .val (.int .i64 (a : Int)), .val (.int .i64 (c : Int))]⟩, ⟨v0, .obj [.own 2 v1 1 0 s.l.length, .val (.int .i64 (s.k : Int)), .val (.int .i64 s.ar), .val (.int .i64 s.pt), .val (.bool s.dd), .val (.int .i64 s.wr)]⟩, ⟨v1, .bytes s.l⟩]
   (pms (.val (.int .i64 (s.kill a c i).1)) [⟨vb, .obj [.ref 1 v0 6 0 0, .val (.int .i64 (a : Int)), .val (.int .i64 (c : Int))]⟩, ⟨v0, .obj [.own 2 v1 1 0 (s.kill a c i).2.l.length, .val (.int .i64 ((s.kill a c i).2.k : Int)), .val (.int .i64 (s.kill a c i).2.ar), .val (.int .i64 (s.kill a c i).2.pt), .val (.bool (s.kill a c i).2.dd), .val (.int .i64 (s.kill a c i).2.wr)]⟩, ⟨v1, .bytes (s.kill a c i).2.l⟩] []) := by
 have hx : s.bank a c = (s.l.drop (a * k)).take (c * k) := by unfold FlS.bank; rw [g.k]
 have hb := g.bok p
 have hbi := hb.int
 have hbl := hb.len
 have hw := g.wr
 refine spec_entry tbOk Tryz.func85 rfl Tryz.ntmps85 Tryz.results85 ?_
 refine gg (k := ?_)
 by_cases hd : s.dd = true
 ·refine cmks (scan_dead s a c g p hd vb v0 v1) Tryz.call121 3 [0, 1, 2] [0, 0, 0] [] ?_
  refine gg (k := ?_)
  have hf : s.kill a c i = (6, s) := by unfold FlS.kill; rw [hd]; rfl
  rw [hf]
  exact ⟨_, rfl, rfl, trivial⟩
 ·have hd : s.dd = false := by simpa using hd
  refine cmks (scan_live s a c g p hd _ hx vb v0 v1) Tryz.call121 (he := ⟨fun _ => ⟨rfl, rfl, trivial, trivial⟩, fun _ => ⟨trivial, trivial⟩, trivial, trivial⟩) 3 [0, 1, 2, 0, 0, 0, 0, 0, 0, 0, 0, 0, 0, 0, 0, 0, 0, 0, 0, 0, 0, 0, 0, 0, 0, 0, 0, 0, 0, 0, 0, 0, 0, 0, 0, 0, 0, 0, 0, 0, 0, 0, 0, 0, 0, 0, 0, 0, 0, 0, 0, 0, 0, 0, 0, 0, 0, 0, 0, 0, 0, 0, 0, 0, 0, 0, 0, 0, 0, 0, 0, 0, 0, 0, 0, 0, 0, 0, 0, 0, 0, 0, 0, 0, 0, 0, 0, 0, 0, 0, 0, 0, 0, 0, 17, 0, 0, 0, 18, 0, 0, 0, 0, 0, 19] [0, 0, 0, 0, 0, 0, 0, 0, 0, 0, 0, 0, 0, 0, 0, 0, 0, 0, 0, 0, 0, 0, 0, 0, 0, 0, 0, 0, 0, 0, 0, 0, 0, 0, 0, 0, 0, 0, 0, 0, 0, 0, 0, 0, 0, 0, 0, 0, 0, 0, 0, 0, 0, 0, 0, 0, 0, 0, 0, 0, 0, 0, 0, 0, 0, 0, 0, 0, 0, 0, 0, 0, 0, 0, 0, 0, 0, 0, 0, 0, 0, 0, 0, 0, 0, 0, 0, 0, 0, 0, 0, 0, 0, 0, 1, 0, 0, 0, 1, 0, 0, 0, 0, 0, 1] [94, 98, 104] ?_
  refine gg (k := ?_)
  refine ⟨fun h => ?_, fun h => ?_⟩
  ·have hc : i < 0 ∨ ((s.scan a c).1.length : Int) ≤ i := by
     rw [Bool.or_eq_true, decide_eq_true_eq, decide_eq_true_eq] at h; exact h
   refine gg (k := ?_)
   have hf : s.kill a c i = (1, s) := by unfold FlS.kill; rw [hd, if_pos hc]; rfl
   rw [hf]
   exact ⟨_, rfl, rfl, trivial⟩
  ·have hc : ¬ (i < 0 ∨ ((s.scan a c).1.length : Int) ≤ i) := by
     rw [Bool.or_eq_false_iff, decide_eq_false_iff_not, decide_eq_false_iff_not] at h; exact fun q => q.elim h.1 h.2
   have hc2 : 0 ≤ i ∧ i < ((scanG (s.bank a c) 16).1.length : Int) := by unfold FlS.scan at hc; omega
   have hbl2 : (s.bank a c).length ≤ s.l.length := by unfold FlS.bank; rw [List.length_take, List.length_drop]; omega
   have hat : 0 ≤ ((scanG (s.bank a c) 16).1.map fun r => (r.at_ : Int)).getD (0 + i.toNat) 0 ∧ ((scanG (s.bank a c) 16).1.map fun r => (r.at_ : Int)).getD (0 + i.toNat) 0 ≤ s.l.length := by
    have hlt : 0 + i.toNat < (scanG (s.bank a c) 16).1.length := by omega
    rw [List.getD_eq_getElem?_getD, List.getElem?_map, List.getElem?_eq_getElem hlt]
    have := (scanG_le (s.bank a c) _ 16 rfl).1 _ (List.getElem_mem hlt)
    simp only [Option.map_some, Option.getD_some]
    omega
   have hnl := g.len
   have hgl := g.l
   refine gg (k := ?_)
   (refine sts (k := ?_))
   refine And.intro ⟨rfl, ⟨rfl, by rw [List.length_map]; omega⟩, trivial⟩ ?_
   refine gg (k := ?_)
   refine cmks (bprog_own s a c hb (((scanG (s.bank a c) 16).1.map fun r => (r.at_ : Int)).getD (0 + i.toNat) 0) (by unfold I64; omega) [248] 1 rfl (by decide) g.ar ⟨by omega, by show s.wr + 1 < _; omega⟩ vb v0 v1 1) Tryz.call122 4 [0, 1, 2, 41] [0, 0, 0, 0] [] ?_
   refine gg (k := ?_)
   have hf : s.kill a c i = s.prog ((a : Int) * s.k + (((scanG (s.bank a c) 16).1.map fun r => (r.at_ : Int)).getD (0 + i.toNat) 0)) [248] := by
    unfold FlS.kill; rw [hd, if_neg hc, Nat.zero_add]; rfl
   rw [hf]
   exact ⟨_, rfl, rfl, trivial⟩
end Go.Proofs.YtmjpbmcbcppkfaaGreatDoor
namespace Go.Proofs.YtmjpbmcbcppkfaaGreatDoor
open Go.RowKit
set_option linter.unusedVariables false
set_option linter.unusedSimpArgs false
set_option maxRecDepth 100000
set_option maxHeartbeats 1500000
def FlS.add3 (s : FlS) (q : Int) (k v : List UInt8) : Int × FlS :=
 if (s.prog q [254]).1 ≠ 0 then s.prog q [254]
 else if ((s.prog q [254]).2.prog (q + 1) (layB k v)).1 ≠ 0 then (s.prog q [254]).2.prog (q + 1) (layB k v)
 else ((s.prog q [254]).2.prog (q + 1) (layB k v)).2.prog q [252]
def FlS.add (s : FlS) (a c : Nat) (k v : List UInt8) : Int × FlS :=
 if k.length < 1 ∨ 255 < k.length ∨ 65536 < v.length then (1, s)
 else if s.dd then (6, s)
 else if (s.scan a c).2.2 = false then (12, s)
 else if (c : Int) * s.k - ((s.scan a c).2.1 : Int) < 12 + k.length + v.length then (5, s)
 else s.add3 ((a : Int) * s.k + ((s.scan a c).2.1 : Int)) k v
theorem add_vc {W : Int} {n k : Nat} (s : FlS) (a c : Nat) (g : Goes W n k s) (hW : W ≤ 9000000000000000000) (p : Lies n k a c) (key val : List UInt8) (hkl : key.length ≤ 140737488355328) (hvl : val.length ≤ 140737488355328) (z z' : Nat) (vb v0 v1 : Nat) : Spec Tryz.prog 116 [.ref 0 vb 3 0 0, .bs z key, .bs z' val] [⟨vb, .obj [.ref 1 v0 6 0 0, .val (.int .i64 (a : Int)), .val (.int .i64 (c : Int))]⟩, ⟨v0, .obj [.own 2 v1 1 0 s.l.length, .val (.int .i64 (s.k : Int)), .val (.int .i64 s.ar), .val (.int .i64 s.pt), .val (.bool s.dd), .val (.int .i64 s.wr)]⟩, ⟨v1, .bytes s.l⟩]
   (pms (.val (.int .i64 (s.add a c key val).1)) [⟨vb, .obj [.ref 1 v0 6 0 0, .val (.int .i64 (a : Int)), .val (.int .i64 (c : Int))]⟩, ⟨v0, .obj [.own 2 v1 1 0 (s.add a c key val).2.l.length, .val (.int .i64 ((s.add a c key val).2.k : Int)), .val (.int .i64 (s.add a c key val).2.ar), .val (.int .i64 (s.add a c key val).2.pt), .val (.bool (s.add a c key val).2.dd), .val (.int .i64 (s.add a c key val).2.wr)]⟩, ⟨v1, .bytes (s.add a c key val).2.l⟩] []) := by
 have hx : s.bank a c = (s.l.drop (a * k)).take (c * k) := by unfold FlS.bank; rw [g.k]
 have hb := g.bok p
 have hbi := hb.int
 have hbl := hb.len
 have hw := g.wr
 refine spec_entry tbOk Tryz.func116 rfl Tryz.ntmps116 Tryz.results116 ?_
 refine gg (k := ?_)
 refine ⟨fun h => ?_, fun h => ?_⟩
 ·have hc : key.length < 1 ∨ 255 < key.length ∨ 65536 < val.length := by
    simp only [Bool.or_eq_true, decide_eq_true_eq] at h; omega
  refine gg (k := ?_)
  have hf : s.add a c key val = (1, s) := by unfold FlS.add; rw [if_pos hc]
  rw [hf]
  exact ⟨_, rfl, rfl, trivial⟩
 have hc : ¬ (key.length < 1 ∨ 255 < key.length ∨ 65536 < val.length) := by
  simp only [Bool.or_eq_false_iff, decide_eq_false_iff_not] at h; omega
 refine gg (k := ?_)
 by_cases hd : s.dd = true
 ·refine cmks (scan_dead s a c g p hd vb v0 v1) Tryz.call121 3 [0, 1, 2] [0, 0, 0] [] ?_
  refine gg (k := ?_)
  have hf : s.add a c key val = (6, s) := by unfold FlS.add; rw [if_neg hc, if_pos hd]
  rw [hf]
  exact ⟨_, rfl, rfl, trivial⟩
 have hd : s.dd = false := by simpa using hd
 refine cmks (scan_live s a c g p hd _ hx vb v0 v1) Tryz.call121 (he := ⟨fun _ => ⟨rfl, rfl, trivial, trivial⟩, fun _ => ⟨trivial, trivial⟩, trivial, trivial⟩) 3 [0, 1, 2, 0, 0, 0, 0, 0, 0, 0, 0, 0, 0, 0, 0, 0, 0, 0, 0, 0, 0, 0, 0, 0, 0, 0, 0, 0, 0, 0, 0, 0, 0, 0, 0, 0, 0, 0, 0, 0, 0, 0, 0, 0, 0, 0, 0, 0, 0, 0, 0, 0, 0, 0, 0, 0, 0, 0, 0, 0, 0, 0, 0, 0, 0, 0, 0, 0, 0, 0, 0, 0, 0, 0, 0, 0, 0, 0, 0, 0, 0, 0, 0, 0, 0, 0, 0, 0, 0, 0, 0, 0, 0, 0, 36, 0, 0, 0, 37, 0, 0, 0, 0, 0, 38] [0, 0, 0, 0, 0, 0, 0, 0, 0, 0, 0, 0, 0, 0, 0, 0, 0, 0, 0, 0, 0, 0, 0, 0, 0, 0, 0, 0, 0, 0, 0, 0, 0, 0, 0, 0, 0, 0, 0, 0, 0, 0, 0, 0, 0, 0, 0, 0, 0, 0, 0, 0, 0, 0, 0, 0, 0, 0, 0, 0, 0, 0, 0, 0, 0, 0, 0, 0, 0, 0, 0, 0, 0, 0, 0, 0, 0, 0, 0, 0, 0, 0, 0, 0, 0, 0, 0, 0, 0, 0, 0, 0, 0, 0, 1, 0, 0, 0, 1, 0, 0, 0, 0, 0, 1] [94, 98, 104] ?_
 refine gg (k := ?_)
 have hsc : s.scan a c = scanG (s.bank a c) 16 := rfl
 have hbk : (s.bank a c).length = c * k := by
  rw [hx, List.length_take, List.length_drop]; have := p.fit; have := g.l; omega
 have hbig := p.big
 have hend := (scanG_le (s.bank a c) _ 16 rfl).2 (by omega)
 generalize scanG (s.bank a c) 16 = S at hsc hend
 obtain ⟨recs, e, wh⟩ := S
 simp only at hend
 have hle : (e : Int) ≤ (c : Int) * s.k := by
  rw [g.k]
  have he : e ≤ c * k := by omega
  exact_mod_cast he
 dsimp only
 have hk0 : key.length ≤ 255 ∧ 1 ≤ key.length ∧ val.length ≤ 65536 := by omega
 refine ⟨fun h => ?_, fun h => ?_⟩
 ·have hwh : wh = false := by simpa using h
  refine gg (k := ?_)
  have hf : s.add a c key val = (12, s) := by unfold FlS.add; rw [if_neg hc, hd, hsc]; simp [hwh]
  rw [hf]
  exact ⟨_, rfl, rfl, trivial⟩
 have hwh : wh = true := by simpa using h
 refine gg (k := ?_)
 refine cdet (need_vc key.length val.length (by omega) (by omega)) Tryz.call112 [] ?_
 refine gg (k := ?_)
 refine cdet (bsize_vc s a c hb vb v0 v1) Tryz.call113 [0, 1, 2] ?_
 refine gg (k := ?_)
 refine ⟨fun h => ?_, fun h => ?_⟩
 ·have hfull : (c : Int) * s.k - (e : Int) < 12 + key.length + val.length := of_decide_eq_true h
  refine gg (k := ?_)
  have hf : s.add a c key val = (5, s) := by unfold FlS.add; rw [if_neg hc, hd, hsc]; simp [hwh, hfull]
  rw [hf]
  exact ⟨_, rfl, rfl, trivial⟩
 have hroom : ¬ ((c : Int) * s.k - (e : Int) < 12 + key.length + val.length) := of_decide_eq_false h
 have hf : s.add a c key val = s.add3 ((a : Int) * s.k + (e : Int)) key val := by unfold FlS.add; rw [if_neg hc, hd, hsc]; simp [hwh, hroom]
 have g1 := g.prog ((a : Int) * s.k + (e : Int)) [254]
 have hb1 := g1.bok p
 have hk1 : (s.prog ((a : Int) * s.k + (e : Int)) [254]).2.k = s.k := by rw [g1.k, g.k]
 have hl1 : ([254] : List UInt8).length = 1 := rfl
 have hlay := layB_len key val
 have g2 := g1.prog ((a : Int) * s.k + (e : Int) + 1) (layB key val)
 have hw1 := g1.wr
 have hw2 := g2.wr
 have hb2 := g2.bok p
 refine gg (k := ?_)
 refine cmks (bprog_own s a c hb (e : Int) (by unfold I64; omega) [254] 1 rfl (by decide) g.ar ⟨by omega, by show s.wr + 1 < _; omega⟩ vb v0 v1 1) Tryz.call122 4 [0, 1, 2, 62] [0, 0, 0, 0] [] ?_
 refine gg (k := ?_)
 have hq1 : (a : Int) * ((s.prog ((a : Int) * s.k + (e : Int)) [254]).2.k : Int) + ((e : Int) + 1) = (a : Int) * s.k + (e : Int) + 1 := by rw [hk1, ← Int.add_assoc]
 have hk2 : ((s.prog ((a : Int) * s.k + (e : Int)) [254]).2.prog ((a : Int) * s.k + (e : Int) + 1) (layB key val)).2.k = s.k := by rw [g2.k, g.k]
 have hq2 : (a : Int) * (((s.prog ((a : Int) * s.k + (e : Int)) [254]).2.prog ((a : Int) * s.k + (e : Int) + 1) (layB key val)).2.k : Int) + (e : Int) = (a : Int) * s.k + (e : Int) := by rw [hk2]
 refine ⟨fun h => ?_, fun h => ?_⟩
 ·have hne : (s.prog ((a : Int) * s.k + (e : Int)) [254]).1 ≠ 0 := by simpa using h
  refine gg (k := ?_)
  rw [hf]; unfold FlS.add3; rw [if_pos hne]
  exact ⟨_, rfl, rfl, trivial⟩
 have he1 : (s.prog ((a : Int) * s.k + (e : Int)) [254]).1 = 0 := by simpa using h
 refine gg (k := ?_)
 refine cmks (lay_vc key val (by omega) (by omega) z z') Tryz.call151 0 [0, 0, 0, 0, 0, 0, 0, 0, 0, 0, 0, 0, 0, 0, 0, 0, 0, 0, 0, 0, 0, 0, 0, 0, 0, 0, 0, 0, 0, 0, 72] [0, 0, 0, 0, 0, 0, 0, 0, 0, 0, 0, 0, 0, 0, 0, 0, 0, 0, 0, 0, 0, 0, 0, 0, 0, 0, 0, 0, 0, 0, 1] [30] ?_
 refine gg (k := ?_)
 refine cmks (bprog_own (s.prog ((a : Int) * s.k + (e : Int)) [254]).2 a c hb1 ((e : Int) + 1) (by rw [hq1]; unfold I64; omega) (layB key val) (layB key val).length rfl (by omega) g1.ar ⟨by omega, by omega⟩ vb v0 v1 8) Tryz.call122 4 [0, 1, 2, 72] [0, 0, 0, 0] [] ?_
 rw [hq1]
 refine gg (k := ?_)
 refine ⟨fun h => ?_, fun h => ?_⟩
 ·have hne : ((s.prog ((a : Int) * s.k + (e : Int)) [254]).2.prog ((a : Int) * s.k + (e : Int) + 1) (layB key val)).1 ≠ 0 := by simpa using h
  refine gg (k := ?_)
  rw [hf]; unfold FlS.add3; rw [if_neg (fun q => q he1), if_pos hne]
  exact ⟨_, rfl, rfl, trivial⟩
 have he2 : ((s.prog ((a : Int) * s.k + (e : Int)) [254]).2.prog ((a : Int) * s.k + (e : Int) + 1) (layB key val)).1 = 0 := by simpa using h
 refine gg (k := ?_)
 refine cmks (bprog_own ((s.prog ((a : Int) * s.k + (e : Int)) [254]).2.prog ((a : Int) * s.k + (e : Int) + 1) (layB key val)).2 a c hb2 (e : Int) (by rw [hq2]; unfold I64; omega) [252] 1 rfl (by decide) g2.ar ⟨by omega, by show _ + (1 : Int) < _; omega⟩ vb v0 v1 1) Tryz.call122 4 [0, 1, 2, 79] [0, 0, 0, 0] [] ?_
 rw [hq2]
 refine gg (k := ?_)
 rw [hf]; unfold FlS.add3; rw [if_neg (fun q => q he1), if_neg (fun q => q he2)]
 exact ⟨_, rfl, rfl, trivial⟩
end Go.Proofs.YtmjpbmcbcppkfaaGreatDoor
