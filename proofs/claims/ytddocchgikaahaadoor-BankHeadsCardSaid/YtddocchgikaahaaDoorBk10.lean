/- Walks of bank: Scan, Kill, Add. Conditions: none. -/
import Derived.Test.YtddocchgikaahaaDoorBk9
namespace Go.Proofs.YtddocchgikaahaaDoor
open Go.RowKit
set_option linter.unusedVariables false
set_option linter.unusedSimpArgs false
set_option maxRecDepth 100000
set_option maxHeartbeats 1500000
/-- the bytes of a bank -/
def FlS.bank (s : FlS) (a c : Nat) : List UInt8 := (s.l.drop (a * s.k)).take (c * s.k)
/-- what a scan tells -/
def FlS.scan (s : FlS) (a c : Nat) : List Rc × Nat × Bool := scanG (s.bank a c) 16
theorem Scan_dead {W : Int} {n k : Nat} (s : FlS) (a c : Nat) (g : Goes W n k s) (p : Lies n k a c) (hd : s.dd = true) (vb v0 v1 : Nat) : Spec Tryd.prog 30 [.ref 0 vb 3 0 0] [⟨vb, .obj [.ref 1 v0 6 0 0, .val (.int .i64 (a : Int)), .val (.int .i64 (c : Int))]⟩, ⟨v0, .obj [.own 2 v1 1 0 s.l.length, .val (.int .i64 (s.k : Int)), .val (.int .i64 s.ar), .val (.int .i64 s.pt), .val (.bool s.dd), .val (.int .i64 s.wr)]⟩, ⟨v1, .bytes s.l⟩]
   (pms (.tup [.val (.slice none 0 0), .val (.int .i64 0), .val (.bool false), .val (.int .i64 6)]) [⟨vb, .obj [.ref 1 v0 6 0 0, .val (.int .i64 (a : Int)), .val (.int .i64 (c : Int))]⟩, ⟨v0, .obj [.own 2 v1 1 0 s.l.length, .val (.int .i64 (s.k : Int)), .val (.int .i64 s.ar), .val (.int .i64 s.pt), .val (.bool s.dd), .val (.int .i64 s.wr)]⟩, ⟨v1, .bytes s.l⟩] []) := by
  refine spec_entry tbOk Tryd.func30 rfl Tryd.ntmps30 Tryd.results30 ?_
  (repeat (first | refine gos (k := ?_) | refine fun (_ : _ = false) => ?_ | refine ⟨fun (_ : true = true) => ?_, fun h => absurd h (by decide)⟩ | refine gtr (k := ?_)))
  refine cmks (scan_dead s a c g p hd vb v0 v1) Tryd.call38 3 [0, 1, 2] [0, 0, 0] [] ?_
  (repeat (first | refine gos (k := ?_) | refine fun (_ : _ = false) => ?_ | refine ⟨fun (_ : true = true) => ?_, fun h => absurd h (by decide)⟩ | refine gtr (k := ?_)))
  exact ⟨_, rfl, rfl, trivial⟩
theorem Scan_live {W : Int} {n k : Nat} (s : FlS) (a c : Nat) (g : Goes W n k s) (p : Lies n k a c) (hd : s.dd = false) (L : Nat) (hL : L = (s.scan a c).1.length) (vb v0 v1 : Nat) : Spec Tryd.prog 30 [.ref 0 vb 3 0 0] [⟨vb, .obj [.ref 1 v0 6 0 0, .val (.int .i64 (a : Int)), .val (.int .i64 (c : Int))]⟩, ⟨v0, .obj [.own 2 v1 1 0 s.l.length, .val (.int .i64 (s.k : Int)), .val (.int .i64 s.ar), .val (.int .i64 s.pt), .val (.bool s.dd), .val (.int .i64 s.wr)]⟩, ⟨v1, .bytes s.l⟩]
   (pms (.tup [.own 13 (L + 2) 3 0 L, .val (.int .i64 ((s.scan a c).2.1 : Int)), .val (.bool (s.scan a c).2.2), .val (.int .i64 0)]) [⟨vb, .obj [.ref 1 v0 6 0 0, .val (.int .i64 (a : Int)), .val (.int .i64 (c : Int))]⟩, ⟨v0, .obj [.own 2 v1 1 0 s.l.length, .val (.int .i64 (s.k : Int)), .val (.int .i64 s.ar), .val (.int .i64 s.pt), .val (.bool s.dd), .val (.int .i64 s.wr)]⟩, ⟨v1, .bytes s.l⟩]
     [(13, ⟨L + 2, .row 3 (rrA 14 2) ⟨0, 0, 0, false⟩ (rrOf 0 (s.scan a c).1)⟩), (14, ⟨2, .pool (poolOf (s.scan a c).1)⟩)]) := by
  subst hL
  have hx : s.bank a c = (s.l.drop (a * k)).take (c * k) := by unfold FlS.bank; rw [g.k]
  refine spec_entry tbOk Tryd.func30 rfl Tryd.ntmps30 Tryd.results30 ?_
  (repeat (first | refine gos (k := ?_) | refine fun (_ : _ = false) => ?_ | refine ⟨fun (_ : true = true) => ?_, fun h => absurd h (by decide)⟩ | refine gtr (k := ?_)))
  refine cmks (scan_live s a c g p hd _ hx vb v0 v1) Tryd.call38 (he := ⟨fun _ => ⟨rfl, rfl, trivial, trivial⟩, fun _ => ⟨trivial, trivial⟩, trivial, trivial⟩) 3 [0, 1, 2, 0, 0, 0, 0, 0, 0, 0, 0, 0, 0, 0, 0, 0, 0, 0, 0, 0, 0, 0, 0, 0, 0, 0, 0, 0, 0, 0, 0, 0, 0, 0, 0, 0, 0, 0, 0, 0, 0, 0, 0, 0, 0, 0, 0, 0, 0, 0, 0, 0, 0, 0, 0, 0, 0, 0, 0, 0, 0, 0, 0, 0, 0, 0, 0, 0, 0, 0, 0, 0, 0, 0, 0, 0, 0, 0, 0, 0, 0, 0, 0, 0, 0, 0, 0, 0, 0, 0, 0, 0, 0, 0, 13, 0, 0, 0, 15, 0, 0, 0, 0, 0, 14] [0, 0, 0, 0, 0, 0, 0, 0, 0, 0, 0, 0, 0, 0, 0, 0, 0, 0, 0, 0, 0, 0, 0, 0, 0, 0, 0, 0, 0, 0, 0, 0, 0, 0, 0, 0, 0, 0, 0, 0, 0, 0, 0, 0, 0, 0, 0, 0, 0, 0, 0, 0, 0, 0, 0, 0, 0, 0, 0, 0, 0, 0, 0, 0, 0, 0, 0, 0, 0, 0, 0, 0, 0, 0, 0, 0, 0, 0, 0, 0, 0, 0, 0, 0, 0, 0, 0, 0, 0, 0, 0, 0, 0, 0, 1, 0, 0, 0, 1, 0, 0, 0, 0, 0, 1] [94, 98, 104] ?_
  (repeat (first | refine gos (k := ?_) | refine fun (_ : _ = false) => ?_ | refine ⟨fun (_ : true = true) => ?_, fun h => absurd h (by decide)⟩ | refine gtr (k := ?_)))
  exact ⟨_, rfl, rfl, rfl, rfl, trivial⟩
theorem scanG_le (x : List UInt8) : ∀ (n a : Nat), x.length - a = n → (∀ r ∈ (scanG x a).1, r.at_ < x.length) ∧ (a ≤ x.length → (scanG x a).2.1 ≤ x.length) := by
  intro n
  induction n using Nat.strongRecOn with
  | _ n ih =>
    intro a ha
    by_cases h : a < x.length ∧ x.getD a 0 ≠ 255
    · by_cases hr : recIs (x.drop a)
      · rw [scanG_some h hr]
        have hN := recN_pos (x.drop a)
        obtain ⟨h1, h2⟩ := ih (x.length - (a + recN (x.drop a))) (by omega) (a + recN (x.drop a)) rfl
        refine ⟨fun r hm => ?_, fun _ => h2 ?_⟩
        · rcases List.mem_cons.1 hm with rfl | hm
          · exact h.1
          · exact h1 r hm
        · have := hr.2.2.2.2.2.1
          rw [List.length_drop] at this; omega
      · rw [scanG_bad h hr]
        exact ⟨by simp, fun h => h⟩
    · rw [scanG_end h]
      exact ⟨by simp, fun h => h⟩
/-- a record is made to be gone -/
def FlS.kill (s : FlS) (a c : Nat) (i : Int) : Int × FlS := if s.dd then (6, s) else if i < 0 ∨ ((s.scan a c).1.length : Int) ≤ i then (1, s) else s.prog ((a : Int) * s.k + (((s.scan a c).1.map fun r => (r.at_ : Int)).getD i.toNat 0)) [248]
theorem kill_vc {W : Int} {n k : Nat} (s : FlS) (a c : Nat) (g : Goes W n k s) (hW : W ≤ 9000000000000000000) (p : Lies n k a c) (i : Int) (hi : I64 i) (vb v0 v1 : Nat) : Spec Tryd.prog 26 [.ref 0 vb 3 0 0, .val (.int .i64 i)] [⟨vb, .obj [.ref 1 v0 6 0 0, .val (.int .i64 (a : Int)), .val (.int .i64 (c : Int))]⟩, ⟨v0, .obj [.own 2 v1 1 0 s.l.length, .val (.int .i64 (s.k : Int)), .val (.int .i64 s.ar), .val (.int .i64 s.pt), .val (.bool s.dd), .val (.int .i64 s.wr)]⟩, ⟨v1, .bytes s.l⟩]
   (pms (.val (.int .i64 (s.kill a c i).1)) [⟨vb, .obj [.ref 1 v0 6 0 0, .val (.int .i64 (a : Int)), .val (.int .i64 (c : Int))]⟩, ⟨v0, .obj [.own 2 v1 1 0 (s.kill a c i).2.l.length, .val (.int .i64 ((s.kill a c i).2.k : Int)), .val (.int .i64 (s.kill a c i).2.ar), .val (.int .i64 (s.kill a c i).2.pt), .val (.bool (s.kill a c i).2.dd), .val (.int .i64 (s.kill a c i).2.wr)]⟩, ⟨v1, .bytes (s.kill a c i).2.l⟩] []) := by
  have hx : s.bank a c = (s.l.drop (a * k)).take (c * k) := by unfold FlS.bank; rw [g.k]
  have hb := g.bok p
  have hbi := hb.int
  have hbl := hb.len
  have hw := g.wr
  refine spec_entry tbOk Tryd.func26 rfl Tryd.ntmps26 Tryd.results26 ?_
  (repeat (first | refine gos (k := ?_) | refine fun (_ : _ = false) => ?_ | refine ⟨fun (_ : true = true) => ?_, fun h => absurd h (by decide)⟩ | refine gtr (k := ?_)))
  by_cases hd : s.dd = true
  · refine cmks (scan_dead s a c g p hd vb v0 v1) Tryd.call38 3 [0, 1, 2] [0, 0, 0] [] ?_
    (repeat (first | refine gos (k := ?_) | refine fun (_ : _ = false) => ?_ | refine ⟨fun (_ : true = true) => ?_, fun h => absurd h (by decide)⟩ | refine gtr (k := ?_)))
    have hf : s.kill a c i = (6, s) := by unfold FlS.kill; rw [hd]; rfl
    rw [hf]
    exact ⟨_, rfl, rfl, trivial⟩
  · have hd : s.dd = false := by simpa using hd
    refine cmks (scan_live s a c g p hd _ hx vb v0 v1) Tryd.call38 (he := ⟨fun _ => ⟨rfl, rfl, trivial, trivial⟩, fun _ => ⟨trivial, trivial⟩, trivial, trivial⟩) 3 [0, 1, 2, 0, 0, 0, 0, 0, 0, 0, 0, 0, 0, 0, 0, 0, 0, 0, 0, 0, 0, 0, 0, 0, 0, 0, 0, 0, 0, 0, 0, 0, 0, 0, 0, 0, 0, 0, 0, 0, 0, 0, 0, 0, 0, 0, 0, 0, 0, 0, 0, 0, 0, 0, 0, 0, 0, 0, 0, 0, 0, 0, 0, 0, 0, 0, 0, 0, 0, 0, 0, 0, 0, 0, 0, 0, 0, 0, 0, 0, 0, 0, 0, 0, 0, 0, 0, 0, 0, 0, 0, 0, 0, 0, 17, 0, 0, 0, 18, 0, 0, 0, 0, 0, 19] [0, 0, 0, 0, 0, 0, 0, 0, 0, 0, 0, 0, 0, 0, 0, 0, 0, 0, 0, 0, 0, 0, 0, 0, 0, 0, 0, 0, 0, 0, 0, 0, 0, 0, 0, 0, 0, 0, 0, 0, 0, 0, 0, 0, 0, 0, 0, 0, 0, 0, 0, 0, 0, 0, 0, 0, 0, 0, 0, 0, 0, 0, 0, 0, 0, 0, 0, 0, 0, 0, 0, 0, 0, 0, 0, 0, 0, 0, 0, 0, 0, 0, 0, 0, 0, 0, 0, 0, 0, 0, 0, 0, 0, 0, 1, 0, 0, 0, 1, 0, 0, 0, 0, 0, 1] [94, 98, 104] ?_
    (repeat (first | refine gos (k := ?_) | refine fun (_ : _ = false) => ?_ | refine ⟨fun (_ : true = true) => ?_, fun h => absurd h (by decide)⟩ | refine gtr (k := ?_)))
    refine ⟨fun h => ?_, fun h => ?_⟩
    · have hc : i < 0 ∨ ((s.scan a c).1.length : Int) ≤ i := by
        rw [Bool.or_eq_true, decide_eq_true_eq, decide_eq_true_eq] at h; exact h
      (repeat (first | refine gos (k := ?_) | refine fun (_ : _ = false) => ?_ | refine ⟨fun (_ : true = true) => ?_, fun h => absurd h (by decide)⟩ | refine gtr (k := ?_)))
      have hf : s.kill a c i = (1, s) := by unfold FlS.kill; rw [hd, if_pos hc]; rfl
      rw [hf]
      exact ⟨_, rfl, rfl, trivial⟩
    · have hc : ¬ (i < 0 ∨ ((s.scan a c).1.length : Int) ≤ i) := by
        rw [Bool.or_eq_false_iff, decide_eq_false_iff_not, decide_eq_false_iff_not] at h; exact fun q => q.elim h.1 h.2
      have hc2 : 0 ≤ i ∧ i < ((scanG (s.bank a c) 16).1.length : Int) := by unfold FlS.scan at hc; omega
      have hbl2 : (s.bank a c).length ≤ s.l.length := by unfold FlS.bank; rw [List.length_take, List.length_drop]; omega
      have hat : 0 ≤ ((scanG (s.bank a c) 16).1.map fun r => (r.at_ : Int)).getD (0 + i.toNat) 0 ∧ ((scanG (s.bank a c) 16).1.map fun r => (r.at_ : Int)).getD (0 + i.toNat) 0 ≤ s.l.length := by
        have hlt : 0 + i.toNat < (scanG (s.bank a c) 16).1.length := by omega
        rw [List.getD_eq_getElem?_getD, List.getElem?_map, List.getElem?_eq_getElem hlt]
        have := (scanG_le (s.bank a c) _ 16 rfl).1 _ (List.getElem_mem hlt)
        simp only [Option.map_some, Option.getD_some]
        omega
      have hnl := g.len
      have hgl := g.l
      (repeat (first | refine gos (k := ?_) | refine fun (_ : _ = false) => ?_ | refine ⟨fun (_ : true = true) => ?_, fun h => absurd h (by decide)⟩ | refine gtr (k := ?_)))
      (refine sts (k := ?_))
      refine And.intro ⟨rfl, ⟨rfl, by rw [List.length_map]; omega⟩, trivial⟩ ?_
      (repeat (first | refine gos (k := ?_) | refine fun (_ : _ = false) => ?_ | refine ⟨fun (_ : true = true) => ?_, fun h => absurd h (by decide)⟩ | refine gtr (k := ?_)))
      refine cmks (bprog_own s a c hb (((scanG (s.bank a c) 16).1.map fun r => (r.at_ : Int)).getD (0 + i.toNat) 0) (by unfold I64; omega) [248] 1 rfl (by decide) g.ar ⟨by omega, by show s.wr + 1 < _; omega⟩ vb v0 v1 1) Tryd.call35 4 [0, 1, 2, 41] [0, 0, 0, 0] [] ?_
      (repeat (first | refine gos (k := ?_) | refine fun (_ : _ = false) => ?_ | refine ⟨fun (_ : true = true) => ?_, fun h => absurd h (by decide)⟩ | refine gtr (k := ?_)))
      have hf : s.kill a c i = s.prog ((a : Int) * s.k + (((scanG (s.bank a c) 16).1.map fun r => (r.at_ : Int)).getD (0 + i.toNat) 0)) [248] := by
        unfold FlS.kill; rw [hd, if_neg hc, Nat.zero_add]; rfl
      rw [hf]
      exact ⟨_, rfl, rfl, trivial⟩
end Go.Proofs.YtddocchgikaahaaDoor
