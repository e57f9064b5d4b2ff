/- Walks of bank: Add. Conditions: none. -/
import Derived.Test.YtddocchgikaahaaDoorBk10
namespace Go.Proofs.YtddocchgikaahaaDoor
open Go.RowKit
set_option linter.unusedVariables false
set_option linter.unusedSimpArgs false
set_option maxRecDepth 100000
set_option maxHeartbeats 1500000
/-- the three writes of a record -/
def FlS.add3 (s : FlS) (q : Int) (k v : List UInt8) : Int × FlS :=
  if (s.prog q [254]).1 ≠ 0 then s.prog q [254]
  else if ((s.prog q [254]).2.prog (q + 1) (layB k v)).1 ≠ 0 then (s.prog q [254]).2.prog (q + 1) (layB k v)
  else ((s.prog q [254]).2.prog (q + 1) (layB k v)).2.prog q [252]
def FlS.add (s : FlS) (a c : Nat) (k v : List UInt8) : Int × FlS :=
  if k.length < 1 ∨ 255 < k.length ∨ 65536 < v.length then (1, s)
  else if s.dd then (6, s)
  else if (s.scan a c).2.2 = false then (12, s)
  else if (c : Int) * s.k - ((s.scan a c).2.1 : Int) < 12 + k.length + v.length then (5, s)
  else s.add3 ((a : Int) * s.k + ((s.scan a c).2.1 : Int)) k v
theorem add_vc {W : Int} {n k : Nat} (s : FlS) (a c : Nat) (g : Goes W n k s) (hW : W ≤ 9000000000000000000) (p : Lies n k a c) (key val : List UInt8) (hkl : key.length ≤ 140737488355328) (hvl : val.length ≤ 140737488355328) (z z' : Nat) (vb v0 v1 : Nat) : Spec Tryd.prog 15 [.ref 0 vb 3 0 0, .bs z key, .bs z' val] [⟨vb, .obj [.ref 1 v0 6 0 0, .val (.int .i64 (a : Int)), .val (.int .i64 (c : Int))]⟩, ⟨v0, .obj [.own 2 v1 1 0 s.l.length, .val (.int .i64 (s.k : Int)), .val (.int .i64 s.ar), .val (.int .i64 s.pt), .val (.bool s.dd), .val (.int .i64 s.wr)]⟩, ⟨v1, .bytes s.l⟩]
   (pms (.val (.int .i64 (s.add a c key val).1)) [⟨vb, .obj [.ref 1 v0 6 0 0, .val (.int .i64 (a : Int)), .val (.int .i64 (c : Int))]⟩, ⟨v0, .obj [.own 2 v1 1 0 (s.add a c key val).2.l.length, .val (.int .i64 ((s.add a c key val).2.k : Int)), .val (.int .i64 (s.add a c key val).2.ar), .val (.int .i64 (s.add a c key val).2.pt), .val (.bool (s.add a c key val).2.dd), .val (.int .i64 (s.add a c key val).2.wr)]⟩, ⟨v1, .bytes (s.add a c key val).2.l⟩] []) := by
  have hx : s.bank a c = (s.l.drop (a * k)).take (c * k) := by unfold FlS.bank; rw [g.k]
  have hb := g.bok p
  have hbi := hb.int
  have hbl := hb.len
  have hw := g.wr
  refine spec_entry tbOk Tryd.func15 rfl Tryd.ntmps15 Tryd.results15 ?_
  (repeat (first | refine gos (k := ?_) | refine fun (_ : _ = false) => ?_ | refine ⟨fun (_ : true = true) => ?_, fun h => absurd h (by decide)⟩ | refine gtr (k := ?_)))
  refine ⟨fun h => ?_, fun h => ?_⟩
  · have hc : key.length < 1 ∨ 255 < key.length ∨ 65536 < val.length := by
      simp only [Bool.or_eq_true, decide_eq_true_eq] at h; omega
    (repeat (first | refine gos (k := ?_) | refine fun (_ : _ = false) => ?_ | refine ⟨fun (_ : true = true) => ?_, fun h => absurd h (by decide)⟩ | refine gtr (k := ?_)))
    have hf : s.add a c key val = (1, s) := by unfold FlS.add; rw [if_pos hc]
    rw [hf]
    exact ⟨_, rfl, rfl, trivial⟩
  have hc : ¬ (key.length < 1 ∨ 255 < key.length ∨ 65536 < val.length) := by
    simp only [Bool.or_eq_false_iff, decide_eq_false_iff_not] at h; omega
  (repeat (first | refine gos (k := ?_) | refine fun (_ : _ = false) => ?_ | refine ⟨fun (_ : true = true) => ?_, fun h => absurd h (by decide)⟩ | refine gtr (k := ?_)))
  by_cases hd : s.dd = true
  · refine cmks (scan_dead s a c g p hd vb v0 v1) Tryd.call38 3 [0, 1, 2] [0, 0, 0] [] ?_
    (repeat (first | refine gos (k := ?_) | refine fun (_ : _ = false) => ?_ | refine ⟨fun (_ : true = true) => ?_, fun h => absurd h (by decide)⟩ | refine gtr (k := ?_)))
    have hf : s.add a c key val = (6, s) := by unfold FlS.add; rw [if_neg hc, if_pos hd]
    rw [hf]
    exact ⟨_, rfl, rfl, trivial⟩
  have hd : s.dd = false := by simpa using hd
  refine cmks (scan_live s a c g p hd _ hx vb v0 v1) Tryd.call38 (he := ⟨fun _ => ⟨rfl, rfl, trivial, trivial⟩, fun _ => ⟨trivial, trivial⟩, trivial, trivial⟩) 3 [0, 1, 2, 0, 0, 0, 0, 0, 0, 0, 0, 0, 0, 0, 0, 0, 0, 0, 0, 0, 0, 0, 0, 0, 0, 0, 0, 0, 0, 0, 0, 0, 0, 0, 0, 0, 0, 0, 0, 0, 0, 0, 0, 0, 0, 0, 0, 0, 0, 0, 0, 0, 0, 0, 0, 0, 0, 0, 0, 0, 0, 0, 0, 0, 0, 0, 0, 0, 0, 0, 0, 0, 0, 0, 0, 0, 0, 0, 0, 0, 0, 0, 0, 0, 0, 0, 0, 0, 0, 0, 0, 0, 0, 0, 36, 0, 0, 0, 37, 0, 0, 0, 0, 0, 38] [0, 0, 0, 0, 0, 0, 0, 0, 0, 0, 0, 0, 0, 0, 0, 0, 0, 0, 0, 0, 0, 0, 0, 0, 0, 0, 0, 0, 0, 0, 0, 0, 0, 0, 0, 0, 0, 0, 0, 0, 0, 0, 0, 0, 0, 0, 0, 0, 0, 0, 0, 0, 0, 0, 0, 0, 0, 0, 0, 0, 0, 0, 0, 0, 0, 0, 0, 0, 0, 0, 0, 0, 0, 0, 0, 0, 0, 0, 0, 0, 0, 0, 0, 0, 0, 0, 0, 0, 0, 0, 0, 0, 0, 0, 1, 0, 0, 0, 1, 0, 0, 0, 0, 0, 1] [94, 98, 104] ?_
  (repeat (first | refine gos (k := ?_) | refine fun (_ : _ = false) => ?_ | refine ⟨fun (_ : true = true) => ?_, fun h => absurd h (by decide)⟩ | refine gtr (k := ?_)))
  have hsc : s.scan a c = scanG (s.bank a c) 16 := rfl
  have hbk : (s.bank a c).length = c * k := by
    rw [hx, List.length_take, List.length_drop]; have := p.fit; have := g.l; omega
  have hbig := p.big
  have hend := (scanG_le (s.bank a c) _ 16 rfl).2 (by omega)
  generalize scanG (s.bank a c) 16 = S at hsc hend
  obtain ⟨recs, e, wh⟩ := S
  simp only at hend
  have hle : (e : Int) ≤ (c : Int) * s.k := by
    rw [g.k]
    have he : e ≤ c * k := by omega
    exact_mod_cast he
  dsimp only
  have hk0 : key.length ≤ 255 ∧ 1 ≤ key.length ∧ val.length ≤ 65536 := by omega
  refine ⟨fun h => ?_, fun h => ?_⟩
  · have hwh : wh = false := by simpa using h
    (repeat (first | refine gos (k := ?_) | refine fun (_ : _ = false) => ?_ | refine ⟨fun (_ : true = true) => ?_, fun h => absurd h (by decide)⟩ | refine gtr (k := ?_)))
    have hf : s.add a c key val = (12, s) := by unfold FlS.add; rw [if_neg hc, hd, hsc]; simp [hwh]
    rw [hf]
    exact ⟨_, rfl, rfl, trivial⟩
  have hwh : wh = true := by simpa using h
  (repeat (first | refine gos (k := ?_) | refine fun (_ : _ = false) => ?_ | refine ⟨fun (_ : true = true) => ?_, fun h => absurd h (by decide)⟩ | refine gtr (k := ?_)))
  refine cdet (need_vc key.length val.length (by omega) (by omega)) Tryd.call17 [] ?_
  (repeat (first | refine gos (k := ?_) | refine fun (_ : _ = false) => ?_ | refine ⟨fun (_ : true = true) => ?_, fun h => absurd h (by decide)⟩ | refine gtr (k := ?_)))
  refine cdet (bsize_vc s a c hb vb v0 v1) Tryd.call37 [0, 1, 2] ?_
  (repeat (first | refine gos (k := ?_) | refine fun (_ : _ = false) => ?_ | refine ⟨fun (_ : true = true) => ?_, fun h => absurd h (by decide)⟩ | refine gtr (k := ?_)))
  refine ⟨fun h => ?_, fun h => ?_⟩
  · have hfull : (c : Int) * s.k - (e : Int) < 12 + key.length + val.length := of_decide_eq_true h
    (repeat (first | refine gos (k := ?_) | refine fun (_ : _ = false) => ?_ | refine ⟨fun (_ : true = true) => ?_, fun h => absurd h (by decide)⟩ | refine gtr (k := ?_)))
    have hf : s.add a c key val = (5, s) := by unfold FlS.add; rw [if_neg hc, hd, hsc]; simp [hwh, hfull]
    rw [hf]
    exact ⟨_, rfl, rfl, trivial⟩
  have hroom : ¬ ((c : Int) * s.k - (e : Int) < 12 + key.length + val.length) := of_decide_eq_false h
  have hf : s.add a c key val = s.add3 ((a : Int) * s.k + (e : Int)) key val := by unfold FlS.add; rw [if_neg hc, hd, hsc]; simp [hwh, hroom]
  have g1 := g.prog ((a : Int) * s.k + (e : Int)) [254]
  have hb1 := g1.bok p
  have hk1 : (s.prog ((a : Int) * s.k + (e : Int)) [254]).2.k = s.k := by rw [g1.k, g.k]
  have hl1 : ([254] : List UInt8).length = 1 := rfl
  have hlay := layB_len key val
  have g2 := g1.prog ((a : Int) * s.k + (e : Int) + 1) (layB key val)
  have hw1 := g1.wr
  have hw2 := g2.wr
  have hb2 := g2.bok p
  (repeat (first | refine gos (k := ?_) | refine fun (_ : _ = false) => ?_ | refine ⟨fun (_ : true = true) => ?_, fun h => absurd h (by decide)⟩ | refine gtr (k := ?_)))
  refine cmks (bprog_own s a c hb (e : Int) (by unfold I64; omega) [254] 1 rfl (by decide) g.ar ⟨by omega, by show s.wr + 1 < _; omega⟩ vb v0 v1 1) Tryd.call35 4 [0, 1, 2, 62] [0, 0, 0, 0] [] ?_
  (repeat (first | refine gos (k := ?_) | refine fun (_ : _ = false) => ?_ | refine ⟨fun (_ : true = true) => ?_, fun h => absurd h (by decide)⟩ | refine gtr (k := ?_)))
  have hq1 : (a : Int) * ((s.prog ((a : Int) * s.k + (e : Int)) [254]).2.k : Int) + ((e : Int) + 1) = (a : Int) * s.k + (e : Int) + 1 := by rw [hk1, ← Int.add_assoc]
  have hk2 : ((s.prog ((a : Int) * s.k + (e : Int)) [254]).2.prog ((a : Int) * s.k + (e : Int) + 1) (layB key val)).2.k = s.k := by rw [g2.k, g.k]
  have hq2 : (a : Int) * (((s.prog ((a : Int) * s.k + (e : Int)) [254]).2.prog ((a : Int) * s.k + (e : Int) + 1) (layB key val)).2.k : Int) + (e : Int) = (a : Int) * s.k + (e : Int) := by rw [hk2]
  refine ⟨fun h => ?_, fun h => ?_⟩
  · have hne : (s.prog ((a : Int) * s.k + (e : Int)) [254]).1 ≠ 0 := by simpa using h
    (repeat (first | refine gos (k := ?_) | refine fun (_ : _ = false) => ?_ | refine ⟨fun (_ : true = true) => ?_, fun h => absurd h (by decide)⟩ | refine gtr (k := ?_)))
    rw [hf]; unfold FlS.add3; rw [if_pos hne]
    exact ⟨_, rfl, rfl, trivial⟩
  have he1 : (s.prog ((a : Int) * s.k + (e : Int)) [254]).1 = 0 := by simpa using h
  (repeat (first | refine gos (k := ?_) | refine fun (_ : _ = false) => ?_ | refine ⟨fun (_ : true = true) => ?_, fun h => absurd h (by decide)⟩ | refine gtr (k := ?_)))
  refine cmks (lay_vc key val (by omega) (by omega) z z') Tryd.call39 0 [0, 0, 0, 0, 0, 0, 0, 0, 0, 0, 0, 0, 0, 0, 0, 0, 0, 0, 0, 0, 0, 0, 0, 0, 0, 0, 0, 0, 0, 0, 72] [0, 0, 0, 0, 0, 0, 0, 0, 0, 0, 0, 0, 0, 0, 0, 0, 0, 0, 0, 0, 0, 0, 0, 0, 0, 0, 0, 0, 0, 0, 1] [30] ?_
  (repeat (first | refine gos (k := ?_) | refine fun (_ : _ = false) => ?_ | refine ⟨fun (_ : true = true) => ?_, fun h => absurd h (by decide)⟩ | refine gtr (k := ?_)))
  refine cmks (bprog_own (s.prog ((a : Int) * s.k + (e : Int)) [254]).2 a c hb1 ((e : Int) + 1) (by rw [hq1]; unfold I64; omega) (layB key val) (layB key val).length rfl (by omega) g1.ar ⟨by omega, by omega⟩ vb v0 v1 8) Tryd.call35 4 [0, 1, 2, 72] [0, 0, 0, 0] [] ?_
  rw [hq1]
  (repeat (first | refine gos (k := ?_) | refine fun (_ : _ = false) => ?_ | refine ⟨fun (_ : true = true) => ?_, fun h => absurd h (by decide)⟩ | refine gtr (k := ?_)))
  refine ⟨fun h => ?_, fun h => ?_⟩
  · have hne : ((s.prog ((a : Int) * s.k + (e : Int)) [254]).2.prog ((a : Int) * s.k + (e : Int) + 1) (layB key val)).1 ≠ 0 := by simpa using h
    (repeat (first | refine gos (k := ?_) | refine fun (_ : _ = false) => ?_ | refine ⟨fun (_ : true = true) => ?_, fun h => absurd h (by decide)⟩ | refine gtr (k := ?_)))
    rw [hf]; unfold FlS.add3; rw [if_neg (fun q => q he1), if_pos hne]
    exact ⟨_, rfl, rfl, trivial⟩
  have he2 : ((s.prog ((a : Int) * s.k + (e : Int)) [254]).2.prog ((a : Int) * s.k + (e : Int) + 1) (layB key val)).1 = 0 := by simpa using h
  (repeat (first | refine gos (k := ?_) | refine fun (_ : _ = false) => ?_ | refine ⟨fun (_ : true = true) => ?_, fun h => absurd h (by decide)⟩ | refine gtr (k := ?_)))
  refine cmks (bprog_own ((s.prog ((a : Int) * s.k + (e : Int)) [254]).2.prog ((a : Int) * s.k + (e : Int) + 1) (layB key val)).2 a c hb2 (e : Int) (by rw [hq2]; unfold I64; omega) [252] 1 rfl (by decide) g2.ar ⟨by omega, by show _ + (1 : Int) < _; omega⟩ vb v0 v1 1) Tryd.call35 4 [0, 1, 2, 79] [0, 0, 0, 0] [] ?_
  rw [hq2]
  (repeat (first | refine gos (k := ?_) | refine fun (_ : _ = false) => ?_ | refine ⟨fun (_ : true = true) => ?_, fun h => absurd h (by decide)⟩ | refine gtr (k := ?_)))
  rw [hf]; unfold FlS.add3; rw [if_neg (fun q => q he1), if_neg (fun q => q he2)]
  exact ⟨_, rfl, rfl, trivial⟩
end Go.Proofs.YtddocchgikaahaaDoor
