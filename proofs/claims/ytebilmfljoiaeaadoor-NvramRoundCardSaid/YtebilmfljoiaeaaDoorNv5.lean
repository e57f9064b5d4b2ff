/- Walks of nvram: now. Conditions: none. -/
import Derived.Test.YtebilmfljoiaeaaDoorNv4
namespace Go.Proofs.YtebilmfljoiaeaaDoor
open Go.RowKit
set_option linter.unusedVariables false
set_option linter.unusedSimpArgs false
set_option maxRecDepth 100000
set_option maxHeartbeats 1500000
theorem now0 {W : Int} {n k : Nat} (s : FlS) (c : Nat) (g : Goes W n k s) (pa : Lies n k 0 c) (pb : Lies n k c c) (hd : s.dd = false) (hi : (s.cnt c).1 = 0) (l : List Rc) (e : Nat) (b : Bool) (hS : s.scan 0 c = (l, e, b)) (vs va vb v0 v1 : Nat) : Spec Tryd.prog 23 [.ref 0 vs 3 0 0] [⟨vs, .obj [.ref 3 v0 6 0 0, .ref 1 va 3 0 0, .ref 2 vb 3 0 0]⟩, ⟨va, .obj [.ref 3 v0 6 0 0, .val (.int .i64 ((0 : Nat) : Int)), .val (.int .i64 (c : Int))]⟩, ⟨vb, .obj [.ref 3 v0 6 0 0, .val (.int .i64 (c : Int)), .val (.int .i64 (c : Int))]⟩, ⟨v0, .obj [.own 4 v1 1 0 s.l.length, .val (.int .i64 (s.k : Int)), .val (.int .i64 s.ar), .val (.int .i64 s.pt), .val (.bool s.dd), .val (.int .i64 s.wr)]⟩, ⟨v1, .bytes s.l⟩]
   (pms (.tup [.agg [.ref 1 va 3 0 0, .own 30 (l.length + 3) 3 0 l.length, .own 32 3 3 0 (keptR l l.length).length, .val (.int .i64 (e : Int)), .val (.bool b)], .val (.int .i64 0)]) [⟨vs, .obj [.ref 3 v0 6 0 0, .ref 1 va 3 0 0, .ref 2 vb 3 0 0]⟩, ⟨va, .obj [.ref 3 v0 6 0 0, .val (.int .i64 ((0 : Nat) : Int)), .val (.int .i64 (c : Int))]⟩, ⟨vb, .obj [.ref 3 v0 6 0 0, .val (.int .i64 (c : Int)), .val (.int .i64 (c : Int))]⟩, ⟨v0, .obj [.own 4 v1 1 0 s.l.length, .val (.int .i64 (s.k : Int)), .val (.int .i64 s.ar), .val (.int .i64 s.pt), .val (.bool s.dd), .val (.int .i64 s.wr)]⟩, ⟨v1, .bytes s.l⟩]
     [(30, ⟨l.length + 3, .row 3 (rrA 31 3) ⟨0, 0, 0, false⟩ (rrOf 0 l)⟩), (31, ⟨3, .pool (poolOf l)⟩), (32, ⟨3, .row 3 (rrA 31 3) ⟨0, 0, 0, false⟩ (keptR l l.length)⟩)]) := by
  have hcv := counts_vc s c g pa pb vs va vb v0 v1
  rw [hi] at hcv
  have hsc := Scan_live s 0 c g pa hd l.length (by rw [hS]) va v0 v1
  rw [hS] at hsc
  have hbd := look_bound g pa hS
  have hfw := look_few g pa hS
  refine spec_entry tbOk Tryd.func23 rfl Tryd.ntmps23 Tryd.results23 ?_
  (repeat (first | refine gos (k := ?_) | refine fun (_ : _ = false) => ?_ | refine ⟨fun (_ : true = true) => ?_, fun h => absurd h (by decide)⟩ | refine gtr (k := ?_)))
  refine cdet (spec_dead_b s false hd v0 v1) Tryd.call18 [3, 4] ?_
  (repeat (first | refine gos (k := ?_) | refine fun (_ : _ = false) => ?_ | refine ⟨fun (_ : true = true) => ?_, fun h => absurd h (by decide)⟩ | refine gtr (k := ?_)))
  refine cmks (hcv) Tryd.call20 5 [0, 1, 2, 3, 4] [0, 0, 0, 0, 0] [] ?_
  (repeat (first | refine gos (k := ?_) | refine fun (_ : _ = false) => ?_ | refine ⟨fun (_ : true = true) => ?_, fun h => absurd h (by decide)⟩ | refine gtr (k := ?_)))
  refine cmks (hsc) Tryd.call38 (he := ⟨fun _ => ⟨rfl, rfl, trivial, trivial⟩, trivial, trivial⟩) 3 [1, 3, 4, 0, 0, 0, 0, 0, 0, 0, 0, 0, 0, 30, 31] [0, 0, 0, 0, 0, 0, 0, 0, 0, 0, 0, 0, 0, 1, 1] [13, 14] ?_
  (repeat (first | refine gos (k := ?_) | refine fun (_ : _ = false) => ?_ | refine ⟨fun (_ : true = true) => ?_, fun h => absurd h (by decide)⟩ | refine gtr (k := ?_)))
  refine cmks (cloneR_vc (rrOf 0 l) (poolOf l) l.length (l.length + 2 + 1) 3 (rrOf_len l 0).symm (by rw [rrOf_len]; exact hfw)) Tryd.call40 (hrows := ⟨⟨fun _ => ⟨Nat.lt_succ_self 1, Nat.lt_succ_self 1, trivial, trivial⟩, rfl⟩, ⟨trivial, rfl⟩, trivial⟩) (hr2 := ⟨fun _ => ⟨rfl, rfl, trivial, trivial⟩, trivial, trivial⟩) (he := ⟨fun _ => ⟨rfl, rfl, trivial, trivial⟩, trivial⟩) 2 [30, 31, 0, 0, 0, 0, 0, 32] [0, 0, 0, 0, 0, 0, 0, 1] [7] ?_
  (repeat (first | refine gos (k := ?_) | refine fun (_ : _ = false) => ?_ | refine ⟨fun (_ : true = true) => ?_, fun h => absurd h (by decide)⟩ | refine gtr (k := ?_)))
  refine cmks (del_vc s 0 c l hbd (e : Int) b 1 1 (l.length + 3) 3 va v0 v1 3) Tryd.call39 (hrows := ⟨⟨⟨trivial, trivial⟩, rfl⟩, ⟨⟨(by show 4 < 8; decide), (by show 2 < 8; decide), trivial, trivial, trivial, trivial⟩, rfl⟩, ⟨fun _ => ⟨(by show 3 < 8; decide), (by show 3 < 8; decide), trivial, trivial⟩, rfl⟩, ⟨trivial, rfl⟩, ⟨⟨(by show 5 < 8; decide), trivial, trivial, trivial⟩, rfl⟩, ⟨⟨(by show 6 < 8; decide), trivial, trivial, trivial, trivial, trivial, trivial⟩, rfl⟩, ⟨trivial, rfl⟩, ⟨fun _ => ⟨(by show 3 < 8; decide), (by show 3 < 8; decide), trivial, trivial⟩, rfl⟩, trivial⟩) (hr2 := ⟨⟨trivial, trivial⟩, ⟨rfl, rfl, trivial, trivial, trivial, trivial⟩, fun _ => ⟨rfl, rfl, trivial, trivial⟩, trivial, ⟨rfl, trivial, trivial, trivial⟩, ⟨rfl, trivial, trivial, trivial, trivial, trivial, trivial⟩, trivial, fun _ => ⟨rfl, rfl, trivial, trivial⟩, trivial⟩) 8 [14, 12, 30, 31, 1, 3, 4, 32] [0, 0, 0, 0, 0, 0, 0, 0] [] ?_
  (repeat (first | refine gos (k := ?_) | refine fun (_ : _ = false) => ?_ | refine ⟨fun (_ : true = true) => ?_, fun h => absurd h (by decide)⟩ | refine gtr (k := ?_)))
  exact ⟨_, rfl, rfl, rfl, rfl, rfl, trivial⟩
theorem now1 {W : Int} {n k : Nat} (s : FlS) (c : Nat) (g : Goes W n k s) (pa : Lies n k 0 c) (pb : Lies n k c c) (hd : s.dd = false) (hi : (s.cnt c).1 = 1) (l : List Rc) (e : Nat) (b : Bool) (hS : s.scan c c = (l, e, b)) (vs va vb v0 v1 : Nat) : Spec Tryd.prog 23 [.ref 0 vs 3 0 0] [⟨vs, .obj [.ref 3 v0 6 0 0, .ref 1 va 3 0 0, .ref 2 vb 3 0 0]⟩, ⟨va, .obj [.ref 3 v0 6 0 0, .val (.int .i64 ((0 : Nat) : Int)), .val (.int .i64 (c : Int))]⟩, ⟨vb, .obj [.ref 3 v0 6 0 0, .val (.int .i64 (c : Int)), .val (.int .i64 (c : Int))]⟩, ⟨v0, .obj [.own 4 v1 1 0 s.l.length, .val (.int .i64 (s.k : Int)), .val (.int .i64 s.ar), .val (.int .i64 s.pt), .val (.bool s.dd), .val (.int .i64 s.wr)]⟩, ⟨v1, .bytes s.l⟩]
   (pms (.tup [.agg [.ref 2 vb 3 0 0, .own 30 (l.length + 3) 3 0 l.length, .own 32 3 3 0 (keptR l l.length).length, .val (.int .i64 (e : Int)), .val (.bool b)], .val (.int .i64 0)]) [⟨vs, .obj [.ref 3 v0 6 0 0, .ref 1 va 3 0 0, .ref 2 vb 3 0 0]⟩, ⟨va, .obj [.ref 3 v0 6 0 0, .val (.int .i64 ((0 : Nat) : Int)), .val (.int .i64 (c : Int))]⟩, ⟨vb, .obj [.ref 3 v0 6 0 0, .val (.int .i64 (c : Int)), .val (.int .i64 (c : Int))]⟩, ⟨v0, .obj [.own 4 v1 1 0 s.l.length, .val (.int .i64 (s.k : Int)), .val (.int .i64 s.ar), .val (.int .i64 s.pt), .val (.bool s.dd), .val (.int .i64 s.wr)]⟩, ⟨v1, .bytes s.l⟩]
     [(30, ⟨l.length + 3, .row 3 (rrA 31 3) ⟨0, 0, 0, false⟩ (rrOf 0 l)⟩), (31, ⟨3, .pool (poolOf l)⟩), (32, ⟨3, .row 3 (rrA 31 3) ⟨0, 0, 0, false⟩ (keptR l l.length)⟩)]) := by
  have hcv := counts_vc s c g pa pb vs va vb v0 v1
  rw [hi] at hcv
  have hsc := Scan_live s c c g pb hd l.length (by rw [hS]) vb v0 v1
  rw [hS] at hsc
  have hbd := look_bound g pb hS
  have hfw := look_few g pb hS
  refine spec_entry tbOk Tryd.func23 rfl Tryd.ntmps23 Tryd.results23 ?_
  (repeat (first | refine gos (k := ?_) | refine fun (_ : _ = false) => ?_ | refine ⟨fun (_ : true = true) => ?_, fun h => absurd h (by decide)⟩ | refine gtr (k := ?_)))
  refine cdet (spec_dead_b s false hd v0 v1) Tryd.call18 [3, 4] ?_
  (repeat (first | refine gos (k := ?_) | refine fun (_ : _ = false) => ?_ | refine ⟨fun (_ : true = true) => ?_, fun h => absurd h (by decide)⟩ | refine gtr (k := ?_)))
  refine cmks (hcv) Tryd.call20 5 [0, 1, 2, 3, 4] [0, 0, 0, 0, 0] [] ?_
  (repeat (first | refine gos (k := ?_) | refine fun (_ : _ = false) => ?_ | refine ⟨fun (_ : true = true) => ?_, fun h => absurd h (by decide)⟩ | refine gtr (k := ?_)))
  refine cmks (hsc) Tryd.call38 (he := ⟨fun _ => ⟨rfl, rfl, trivial, trivial⟩, trivial, trivial⟩) 3 [2, 3, 4, 0, 0, 0, 0, 0, 0, 0, 0, 0, 0, 30, 31] [0, 0, 0, 0, 0, 0, 0, 0, 0, 0, 0, 0, 0, 1, 1] [13, 14] ?_
  (repeat (first | refine gos (k := ?_) | refine fun (_ : _ = false) => ?_ | refine ⟨fun (_ : true = true) => ?_, fun h => absurd h (by decide)⟩ | refine gtr (k := ?_)))
  refine cmks (cloneR_vc (rrOf 0 l) (poolOf l) l.length (l.length + 2 + 1) 3 (rrOf_len l 0).symm (by rw [rrOf_len]; exact hfw)) Tryd.call40 (hrows := ⟨⟨fun _ => ⟨Nat.lt_succ_self 1, Nat.lt_succ_self 1, trivial, trivial⟩, rfl⟩, ⟨trivial, rfl⟩, trivial⟩) (hr2 := ⟨fun _ => ⟨rfl, rfl, trivial, trivial⟩, trivial, trivial⟩) (he := ⟨fun _ => ⟨rfl, rfl, trivial, trivial⟩, trivial⟩) 2 [30, 31, 0, 0, 0, 0, 0, 32] [0, 0, 0, 0, 0, 0, 0, 1] [7] ?_
  (repeat (first | refine gos (k := ?_) | refine fun (_ : _ = false) => ?_ | refine ⟨fun (_ : true = true) => ?_, fun h => absurd h (by decide)⟩ | refine gtr (k := ?_)))
  refine cmks (del_vc s c c l hbd (e : Int) b 1 1 (l.length + 3) 3 vb v0 v1 3) Tryd.call39 (hrows := ⟨⟨⟨trivial, trivial⟩, rfl⟩, ⟨⟨(by show 4 < 8; decide), (by show 2 < 8; decide), trivial, trivial, trivial, trivial⟩, rfl⟩, ⟨fun _ => ⟨(by show 3 < 8; decide), (by show 3 < 8; decide), trivial, trivial⟩, rfl⟩, ⟨trivial, rfl⟩, ⟨⟨(by show 5 < 8; decide), trivial, trivial, trivial⟩, rfl⟩, ⟨⟨(by show 6 < 8; decide), trivial, trivial, trivial, trivial, trivial, trivial⟩, rfl⟩, ⟨trivial, rfl⟩, ⟨fun _ => ⟨(by show 3 < 8; decide), (by show 3 < 8; decide), trivial, trivial⟩, rfl⟩, trivial⟩) (hr2 := ⟨⟨trivial, trivial⟩, ⟨rfl, rfl, trivial, trivial, trivial, trivial⟩, fun _ => ⟨rfl, rfl, trivial, trivial⟩, trivial, ⟨rfl, trivial, trivial, trivial⟩, ⟨rfl, trivial, trivial, trivial, trivial, trivial, trivial⟩, trivial, fun _ => ⟨rfl, rfl, trivial, trivial⟩, trivial⟩) 8 [14, 12, 30, 31, 2, 3, 4, 32] [0, 0, 0, 0, 0, 0, 0, 0] [] ?_
  (repeat (first | refine gos (k := ?_) | refine fun (_ : _ = false) => ?_ | refine ⟨fun (_ : true = true) => ?_, fun h => absurd h (by decide)⟩ | refine gtr (k := ?_)))
  exact ⟨_, rfl, rfl, rfl, rfl, rfl, trivial⟩
theorem now_dead (s : FlS) (c : Nat) (hd : s.dd = true) (vs va vb v0 v1 : Nat) : Spec Tryd.prog 23 [.ref 0 vs 3 0 0] [⟨vs, .obj [.ref 3 v0 6 0 0, .ref 1 va 3 0 0, .ref 2 vb 3 0 0]⟩, ⟨va, .obj [.ref 3 v0 6 0 0, .val (.int .i64 ((0 : Nat) : Int)), .val (.int .i64 (c : Int))]⟩, ⟨vb, .obj [.ref 3 v0 6 0 0, .val (.int .i64 (c : Int)), .val (.int .i64 (c : Int))]⟩, ⟨v0, .obj [.own 4 v1 1 0 s.l.length, .val (.int .i64 (s.k : Int)), .val (.int .i64 s.ar), .val (.int .i64 s.pt), .val (.bool s.dd), .val (.int .i64 s.wr)]⟩, ⟨v1, .bytes s.l⟩]
   (pms (.tup [.agg [.val (.pointer none), .val (.slice none 0 0), .val (.slice none 0 0), .val (.int .i64 0), .val (.bool false)], .val (.int .i64 6)]) [⟨vs, .obj [.ref 3 v0 6 0 0, .ref 1 va 3 0 0, .ref 2 vb 3 0 0]⟩, ⟨va, .obj [.ref 3 v0 6 0 0, .val (.int .i64 ((0 : Nat) : Int)), .val (.int .i64 (c : Int))]⟩, ⟨vb, .obj [.ref 3 v0 6 0 0, .val (.int .i64 (c : Int)), .val (.int .i64 (c : Int))]⟩, ⟨v0, .obj [.own 4 v1 1 0 s.l.length, .val (.int .i64 (s.k : Int)), .val (.int .i64 s.ar), .val (.int .i64 s.pt), .val (.bool s.dd), .val (.int .i64 s.wr)]⟩, ⟨v1, .bytes s.l⟩] []) := by
  refine spec_entry tbOk Tryd.func23 rfl Tryd.ntmps23 Tryd.results23 ?_
  (repeat (first | refine gos (k := ?_) | refine fun (_ : _ = false) => ?_ | refine ⟨fun (_ : true = true) => ?_, fun h => absurd h (by decide)⟩ | refine gtr (k := ?_)))
  refine cdet (spec_dead_b s true hd v0 v1) Tryd.call18 [3, 4] ?_
  (repeat (first | refine gos (k := ?_) | refine fun (_ : _ = false) => ?_ | refine ⟨fun (_ : true = true) => ?_, fun h => absurd h (by decide)⟩ | refine gtr (k := ?_)))
  exact ⟨_, rfl, rfl, trivial⟩
theorem now_nil : Spec Tryd.prog 23 [.val (.pointer none)] []
   (pms (.tup [.agg [.val (.pointer none), .val (.slice none 0 0), .val (.slice none 0 0), .val (.int .i64 0), .val (.bool false)], .val (.int .i64 2)]) [] []) := by
  refine spec_entry tbOk Tryd.func23 rfl Tryd.ntmps23 Tryd.results23 ?_
  (repeat (first | refine gos (k := ?_) | refine fun (_ : _ = false) => ?_ | refine ⟨fun (_ : true = true) => ?_, fun h => absurd h (by decide)⟩ | refine gtr (k := ?_)))
  exact ⟨_, rfl, rfl, trivial⟩
end Go.Proofs.YtebilmfljoiaeaaDoor
