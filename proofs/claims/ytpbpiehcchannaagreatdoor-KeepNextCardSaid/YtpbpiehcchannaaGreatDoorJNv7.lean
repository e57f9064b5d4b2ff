/- Walks of nvram: Room, copy. Conditions: none. -/
import Derived.Test.YtpbpiehcchannaaGreatDoorJNv6
namespace Go.Proofs.YtpbpiehcchannaaGreatDoor
open Go.RowKit
set_option linter.unusedVariables false
set_option linter.unusedSimpArgs false
set_option maxRecDepth 100000
set_option maxHeartbeats 1500000
theorem sroom_vc {W : Int} {n k : Nat} (s : FlS) (c : Nat) (g : Goes W n k s) (pa : Lies n k 0 c) (vs va vb v0 v1 : Nat) : Spec Tryz.prog 27 [.ref 0 vs 3 0 0] [⟨vs, .obj [.ref 3 v0 6 0 0, .ref 1 va 3 0 0, .ref 2 vb 3 0 0]⟩, ⟨va, .obj [.ref 3 v0 6 0 0, .val (.int .i64 ((0 : Nat) : Int)), .val (.int .i64 (c : Int))]⟩, ⟨vb, .obj [.ref 3 v0 6 0 0, .val (.int .i64 (c : Int)), .val (.int .i64 (c : Int))]⟩, ⟨v0, .obj [.own 4 v1 1 0 s.l.length, .val (.int .i64 (s.k : Int)), .val (.int .i64 s.ar), .val (.int .i64 s.pt), .val (.bool s.dd), .val (.int .i64 s.wr)]⟩, ⟨v1, .bytes s.l⟩] (pms (.val (.int .i64 ((c : Int) * s.k - 16))) [⟨vs, .obj [.ref 3 v0 6 0 0, .ref 1 va 3 0 0, .ref 2 vb 3 0 0]⟩, ⟨va, .obj [.ref 3 v0 6 0 0, .val (.int .i64 ((0 : Nat) : Int)), .val (.int .i64 (c : Int))]⟩, ⟨vb, .obj [.ref 3 v0 6 0 0, .val (.int .i64 (c : Int)), .val (.int .i64 (c : Int))]⟩, ⟨v0, .obj [.own 4 v1 1 0 s.l.length, .val (.int .i64 (s.k : Int)), .val (.int .i64 s.ar), .val (.int .i64 s.pt), .val (.bool s.dd), .val (.int .i64 s.wr)]⟩, ⟨v1, .bytes s.l⟩] []) := by
 refine spec_entry tbOk Tryz.func27 rfl Tryz.ntmps27 Tryz.results27 ?_
 refine gg (k := ?_)
 refine cdet (room_vc s 0 c (g.bok pa) va v0 v1) Tryz.call85 [1, 3, 4] ?_
 refine gg (k := ?_)
 exact ⟨_, rfl, rfl, trivial⟩
theorem head_bnd (s : FlS) (a : Nat) : 0 ≤ (s.head a).1 ∧ (s.head a).1 ≤ 4294967295 := by
 unfold FlS.head
 split
 ·exact ⟨by simp, by simp⟩
 split
 ·have := numB_lt ((((s.l.drop (a * s.k)).take 16).drop 4).take 4)
  have hl : ((((s.l.drop (a * s.k)).take 16).drop 4).take 4).length ≤ 4 := by rw [List.length_take]; omega
  have h2 : 256 ^ ((((s.l.drop (a * s.k)).take 16).drop 4).take 4).length ≤ 256 ^ 4 := Nat.pow_le_pow_right (by decide) hl
  simp only
  omega
 ·exact ⟨by simp, by simp⟩
theorem cnt_bnd (s : FlS) (c : Nat) : 0 ≤ (s.cnt c).2.1 ∧ (s.cnt c).2.1 ≤ 4294967295 := by
 unfold FlS.cnt
 split
 ·exact head_bnd s c
 ·exact head_bnd s 0
theorem copy0 {W : Int} {n k : Nat} (s : FlS) (c : Nat) (g : Goes W n k s) (hW : W ≤ 1000000000000000000) (pa : Lies n k 0 c) (pb : Lies n k c c) (hi : (s.cnt c).1 = 0) {rs : List Rr} {ps : List (List UInt8)} {la : List RK} (h : RRel rs ps la) (hb : ∀ r ∈ la, r.key.length ≤ 140737488355328 ∧ r.val.length ≤ 140737488355328) (hl : la.length ≤ 4194304) (l : List Rc) (e : Int) (b : Bool) (vs va vb v0 v1 vr vw vq N : Nat) (hN : N = rs.length) : Spec Tryz.prog 80 [.ref 0 vs 3 0 0, .agg [.ref 1 va 3 0 0, .own 7 vq 3 0 l.length, .own 5 vr 3 0 N, .val (.int .i64 e), .val (.bool b)]] [⟨vs, .obj [.ref 3 v0 6 0 0, .ref 1 va 3 0 0, .ref 2 vb 3 0 0]⟩, ⟨va, .obj [.ref 3 v0 6 0 0, .val (.int .i64 ((0 : Nat) : Int)), .val (.int .i64 (c : Int))]⟩, ⟨vb, .obj [.ref 3 v0 6 0 0, .val (.int .i64 (c : Int)), .val (.int .i64 (c : Int))]⟩, ⟨v0, .obj [.own 4 v1 1 0 s.l.length, .val (.int .i64 (s.k : Int)), .val (.int .i64 s.ar), .val (.int .i64 s.pt), .val (.bool s.dd), .val (.int .i64 s.wr)]⟩, ⟨v1, .bytes s.l⟩, ⟨vr, .row 3 (rrA 6 vw) ⟨0, 0, 0, false⟩ rs⟩, ⟨vw, .pool ps⟩, ⟨vq, .row 3 (rrA 6 vw) ⟨0, 0, 0, false⟩ (rrOf 0 l)⟩]
   (pms (.val (.int .i64 (s.copy c la).1)) [⟨vs, .obj [.ref 3 v0 6 0 0, .ref 1 va 3 0 0, .ref 2 vb 3 0 0]⟩, ⟨va, .obj [.ref 3 v0 6 0 0, .val (.int .i64 ((0 : Nat) : Int)), .val (.int .i64 (c : Int))]⟩, ⟨vb, .obj [.ref 3 v0 6 0 0, .val (.int .i64 (c : Int)), .val (.int .i64 (c : Int))]⟩, ⟨v0, .obj [.own 4 v1 1 0 (s.copy c la).2.l.length, .val (.int .i64 ((s.copy c la).2.k : Int)), .val (.int .i64 (s.copy c la).2.ar), .val (.int .i64 (s.copy c la).2.pt), .val (.bool (s.copy c la).2.dd), .val (.int .i64 (s.copy c la).2.wr)]⟩, ⟨v1, .bytes (s.copy c la).2.l⟩, ⟨vr, .row 3 (rrA 6 vw) ⟨0, 0, 0, false⟩ rs⟩, ⟨vw, .pool ps⟩, ⟨vq, .row 3 (rrA 6 vw) ⟨0, 0, 0, false⟩ (rrOf 0 l)⟩] []) := by
 have hcv := counts_vc s c g pa pb vs va vb v0 v1
 have hgb := cnt_bnd s c
 have hbg := fun gen hg => begin1 s c g hW pa pb gen hg h hb hl vs va vb v0 v1 vr vw N hN
 unfold FlS.copy
 rw [hi] at hcv ⊢
 rw [show (1 - 0) * c = c by omega]
 generalize (s.cnt c).2.1 = gen at hcv hgb ⊢
 refine spec_entry tbOk Tryz.func80 rfl Tryz.ntmps80 Tryz.results80 ?_
 refine gg (k := ?_)
 refine cmks (hcv) Tryz.call69 5 [0, 1, 2, 3, 4] [0, 0, 0, 0, 0] [] ?_
 by_cases hm' : gen = 4294967295
 ·subst hm'
  rw [if_pos rfl]
  refine gg (k := ?_)
  exact ⟨_, rfl, rfl, trivial⟩
 ·rw [if_neg hm']
  have hd : decide (gen = 4294967295) = false := decide_eq_false hm'
  refine gg (k := ?_)
  (refine sts (k := ?_))
  refine draw_of (p := 8) tbOk hm [0, 0, 0, 4, 2, 18, 62, 126, 0, 256, 0, 1024, 4095, 8191] [⟨0, false, false, []⟩, ⟨1, false, false, []⟩, ⟨2, false, false, []⟩, ⟨3, false, false, []⟩, ⟨4, true, false, [16, 18, 19, 21, 22, 23, 24, 25, 26, 27, 28, 4]⟩, ⟨5, true, false, [16, 18, 19, 22, 23, 24, 25, 26, 27, 28, 4]⟩, ⟨6, true, false, [16, 23, 24, 25, 26, 27, 28, 4]⟩, ⟨7, true, false, [16, 24, 25, 26, 27, 28, 4]⟩, ⟨8, false, false, []⟩, ⟨9, false, false, []⟩, ⟨10, true, false, [16, 17, 18, 19, 20, 21, 22, 23, 24, 25, 27, 28, 4]⟩, ⟨11, true, false, [16, 17, 18, 19, 20, 21, 22, 23, 24, 25, 28, 4]⟩, ⟨12, true, true, [4]⟩, ⟨13, false, false, []⟩] (by kernel_rfl) ?_
  refine gg (k := ?_)
  rw [show (gen + 1) % 4294967296 = gen + 1 by omega]
  refine cmks (hbg (gen + 1) (by omega)) Tryz.call70 (hrows := ⟨⟨⟨(by show 3 < 7; decide), (by show 1 < 7; decide), (by show 2 < 7; decide), trivial⟩, rfl⟩, ⟨⟨(by show 3 < 7; decide), trivial, trivial, trivial⟩, rfl⟩, ⟨⟨(by show 3 < 7; decide), trivial, trivial, trivial⟩, rfl⟩, ⟨⟨(by show 4 < 7; decide), trivial, trivial, trivial, trivial, trivial, trivial⟩, rfl⟩, ⟨trivial, rfl⟩, ⟨fun _ => ⟨(by show 6 < 7; decide), (by show 6 < 7; decide), trivial, trivial⟩, rfl⟩, ⟨trivial, rfl⟩, trivial⟩) (hr2 := ⟨⟨rfl, rfl, rfl, trivial⟩, ⟨rfl, trivial, trivial, trivial⟩, ⟨rfl, trivial, trivial, trivial⟩, ⟨rfl, trivial, trivial, trivial, trivial, trivial, trivial⟩, trivial, fun _ => ⟨rfl, rfl, trivial, trivial⟩, trivial, trivial⟩) 7 [0, 1, 2, 3, 4, 5, 6] [0, 0, 0, 0, 0, 0, 0] [] ?_
  refine gg (k := ?_)
  conv => whnf
  refine And.intro ⟨.inr (fun h => nomatch h), .inr (fun h => nomatch h), .inr (fun h => nomatch h), .inr (fun h => nomatch h), .inr (fun h => nomatch h), .inr (fun h => nomatch h), .inr (fun h => nomatch h), trivial⟩ ?_
  refine gg (k := ?_)
  exact ⟨_, rfl, rfl, trivial⟩
theorem copy1 {W : Int} {n k : Nat} (s : FlS) (c : Nat) (g : Goes W n k s) (hW : W ≤ 1000000000000000000) (pa : Lies n k 0 c) (pb : Lies n k c c) (hi : (s.cnt c).1 = 1) {rs : List Rr} {ps : List (List UInt8)} {la : List RK} (h : RRel rs ps la) (hb : ∀ r ∈ la, r.key.length ≤ 140737488355328 ∧ r.val.length ≤ 140737488355328) (hl : la.length ≤ 4194304) (l : List Rc) (e : Int) (b : Bool) (vs va vb v0 v1 vr vw vq N : Nat) (hN : N = rs.length) : Spec Tryz.prog 80 [.ref 0 vs 3 0 0, .agg [.ref 2 vb 3 0 0, .own 7 vq 3 0 l.length, .own 5 vr 3 0 N, .val (.int .i64 e), .val (.bool b)]] [⟨vs, .obj [.ref 3 v0 6 0 0, .ref 1 va 3 0 0, .ref 2 vb 3 0 0]⟩, ⟨va, .obj [.ref 3 v0 6 0 0, .val (.int .i64 ((0 : Nat) : Int)), .val (.int .i64 (c : Int))]⟩, ⟨vb, .obj [.ref 3 v0 6 0 0, .val (.int .i64 (c : Int)), .val (.int .i64 (c : Int))]⟩, ⟨v0, .obj [.own 4 v1 1 0 s.l.length, .val (.int .i64 (s.k : Int)), .val (.int .i64 s.ar), .val (.int .i64 s.pt), .val (.bool s.dd), .val (.int .i64 s.wr)]⟩, ⟨v1, .bytes s.l⟩, ⟨vr, .row 3 (rrA 6 vw) ⟨0, 0, 0, false⟩ rs⟩, ⟨vw, .pool ps⟩, ⟨vq, .row 3 (rrA 6 vw) ⟨0, 0, 0, false⟩ (rrOf 0 l)⟩]
   (pms (.val (.int .i64 (s.copy c la).1)) [⟨vs, .obj [.ref 3 v0 6 0 0, .ref 1 va 3 0 0, .ref 2 vb 3 0 0]⟩, ⟨va, .obj [.ref 3 v0 6 0 0, .val (.int .i64 ((0 : Nat) : Int)), .val (.int .i64 (c : Int))]⟩, ⟨vb, .obj [.ref 3 v0 6 0 0, .val (.int .i64 (c : Int)), .val (.int .i64 (c : Int))]⟩, ⟨v0, .obj [.own 4 v1 1 0 (s.copy c la).2.l.length, .val (.int .i64 ((s.copy c la).2.k : Int)), .val (.int .i64 (s.copy c la).2.ar), .val (.int .i64 (s.copy c la).2.pt), .val (.bool (s.copy c la).2.dd), .val (.int .i64 (s.copy c la).2.wr)]⟩, ⟨v1, .bytes (s.copy c la).2.l⟩, ⟨vr, .row 3 (rrA 6 vw) ⟨0, 0, 0, false⟩ rs⟩, ⟨vw, .pool ps⟩, ⟨vq, .row 3 (rrA 6 vw) ⟨0, 0, 0, false⟩ (rrOf 0 l)⟩] []) := by
 have hcv := counts_vc s c g pa pb vs va vb v0 v1
 have hgb := cnt_bnd s c
 have hbg := fun gen hg => begin0 s c g hW pa pb gen hg h hb hl vs va vb v0 v1 vr vw N hN
 unfold FlS.copy
 rw [hi] at hcv ⊢
 rw [show (1 - 1) * c = 0 by omega]
 generalize (s.cnt c).2.1 = gen at hcv hgb ⊢
 refine spec_entry tbOk Tryz.func80 rfl Tryz.ntmps80 Tryz.results80 ?_
 refine gg (k := ?_)
 refine cmks (hcv) Tryz.call69 5 [0, 1, 2, 3, 4] [0, 0, 0, 0, 0] [] ?_
 by_cases hm' : gen = 4294967295
 ·subst hm'
  rw [if_pos rfl]
  refine gg (k := ?_)
  exact ⟨_, rfl, rfl, trivial⟩
 ·rw [if_neg hm']
  have hd : decide (gen = 4294967295) = false := decide_eq_false hm'
  refine gg (k := ?_)
  (refine sts (k := ?_))
  refine draw_of (p := 8) tbOk hm [0, 0, 0, 4, 2, 18, 62, 126, 0, 256, 0, 1024, 4095, 8191] [⟨0, false, false, []⟩, ⟨1, false, false, []⟩, ⟨2, false, false, []⟩, ⟨3, false, false, []⟩, ⟨4, true, false, [16, 18, 19, 21, 22, 23, 24, 25, 26, 27, 28, 4]⟩, ⟨5, true, false, [16, 18, 19, 22, 23, 24, 25, 26, 27, 28, 4]⟩, ⟨6, true, false, [16, 23, 24, 25, 26, 27, 28, 4]⟩, ⟨7, true, false, [16, 24, 25, 26, 27, 28, 4]⟩, ⟨8, false, false, []⟩, ⟨9, false, false, []⟩, ⟨10, true, false, [16, 17, 18, 19, 20, 21, 22, 23, 24, 25, 27, 28, 4]⟩, ⟨11, true, false, [16, 17, 18, 19, 20, 21, 22, 23, 24, 25, 28, 4]⟩, ⟨12, true, true, [4]⟩, ⟨13, false, false, []⟩] (by kernel_rfl) ?_
  refine gg (k := ?_)
  rw [show (gen + 1) % 4294967296 = gen + 1 by omega]
  refine cmks (hbg (gen + 1) (by omega)) Tryz.call70 (hrows := ⟨⟨⟨(by show 3 < 7; decide), (by show 1 < 7; decide), (by show 2 < 7; decide), trivial⟩, rfl⟩, ⟨⟨(by show 3 < 7; decide), trivial, trivial, trivial⟩, rfl⟩, ⟨⟨(by show 3 < 7; decide), trivial, trivial, trivial⟩, rfl⟩, ⟨⟨(by show 4 < 7; decide), trivial, trivial, trivial, trivial, trivial, trivial⟩, rfl⟩, ⟨trivial, rfl⟩, ⟨fun _ => ⟨(by show 6 < 7; decide), (by show 6 < 7; decide), trivial, trivial⟩, rfl⟩, ⟨trivial, rfl⟩, trivial⟩) (hr2 := ⟨⟨rfl, rfl, rfl, trivial⟩, ⟨rfl, trivial, trivial, trivial⟩, ⟨rfl, trivial, trivial, trivial⟩, ⟨rfl, trivial, trivial, trivial, trivial, trivial, trivial⟩, trivial, fun _ => ⟨rfl, rfl, trivial, trivial⟩, trivial, trivial⟩) 7 [0, 1, 2, 3, 4, 5, 6] [0, 0, 0, 0, 0, 0, 0] [] ?_
  refine gg (k := ?_)
  conv => whnf
  refine And.intro ⟨.inr (fun h => nomatch h), .inr (fun h => nomatch h), .inr (fun h => nomatch h), .inr (fun h => nomatch h), .inr (fun h => nomatch h), .inr (fun h => nomatch h), .inr (fun h => nomatch h), trivial⟩ ?_
  refine gg (k := ?_)
  exact ⟨_, rfl, rfl, trivial⟩
end Go.Proofs.YtpbpiehcchannaaGreatDoor
