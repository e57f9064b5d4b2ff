/- Walks of vname: Right, Key. Conditions: none. -/
import Derived.Test.YtpbpiehcchannaaGreatDoorJAw
import Derived.Test.YtpbpiehcchannaaGreatDoorJGf
namespace Go.Proofs.YtpbpiehcchannaaGreatDoor
open Go.RowKit
set_option linter.unusedVariables false
set_option linter.unusedSimpArgs false
set_option maxRecDepth 100000
set_option maxHeartbeats 1500000
def okC (c : UInt8) : Bool := decide (33 ≤ c.toNat) && decide (c.toNat ≤ 126)
def rightN (s : ByteArray) : Bool := s.data.toList.all okC && (decide (1 ≤ s.size) && decide (s.size ≤ 64))
theorem right_vc (s : ByteArray) (hs : s.size ≤ 140737488355328) : Spec Tryz.prog 141 [.val (.string s)] [] (pst (.val (.bool (rightN s))) []) := by
 obtain ⟨l, hl⟩ : ∃ l, s.data.toList = l := ⟨_, rfl⟩
 have hz : s.size = l.length := by rw [← hl]; simp
 have hr : rightN s = (l.all okC && (decide (1 ≤ l.length) && decide (l.length ≤ 64))) := by unfold rightN; rw [hl, hz]
 rw [hr]
 refine spec_entry tbOk Tryz.func141 rfl Tryz.ntmps141 Tryz.results141 ?_
 refine gg (k := ?_)
 (refine sts (k := ?_))
 rw [hl, hz, show (Bd.bytes l).sz = 1 from rfl]
 conv => whnf
 refine loop_at (fun i : Nat => i ≤ l.length ∧ (l.take i).all okC = true) (fun i => l.length - i) 1 [2, 4, 8, 9, 10, 11, 12, 13, 14, 15, 16, 17, 18] (fun i => [(8, .val (.int .i64 i))]) (fun _ => []) 0 ⟨Nat.zero_le _, rfl⟩ ?_ ?_ ?_
 ·exact no_implicit_lambda% ten
 ·exact no_implicit_lambda% hen
 ·rintro i v ⟨h1, h2⟩
  refine glp (k := ?_)
  refine gg (k := ?_)
  refine ⟨fun h => ?_, fun h => ?_⟩
  ·have hi : i < l.length := by have := of_decide_eq_true h; omega
   refine gg (k := ?_)
   have hd : l.getD (0 + (i : Int).toNat) 0 = l[i] := by simp [hi]
   rw [hd]
   refine ⟨fun h => ?_, fun h => ?_⟩
   ·refine gg (k := ?_)
    refine ⟨_, congrArg AV.val (congrArg Value.bool ?_), rfl⟩
    have h0 : okC l[i] = false := by
     simp only [Bool.or_eq_true, decide_eq_true_eq] at h
     simp only [okC, Bool.and_eq_false_iff, decide_eq_false_iff_not]
     omega
    have h9 : l.all okC = false := by
     rw [List.all_eq_false]
     exact ⟨l[i], List.getElem_mem hi, by rw [h0]; decide⟩
    rw [h9]; rfl
   ·refine gg (k := ?_)
    have h0 : okC l[i] = true := by
     simp only [Bool.or_eq_false_iff, decide_eq_false_iff_not] at h
     simp only [okC, Bool.and_eq_true, decide_eq_true_eq]
     omega
    refine back_at (i + 1) ⟨by omega, by rw [List.take_succ_eq_append_getElem hi, List.all_append, h2]; simp [h0]⟩ (by show l.length - (i + 1) < l.length - i; omega) ?_ ?_
    ·exact no_implicit_lambda% ten
    ·exact no_implicit_lambda% hen
  ·refine gg (k := ?_)
   have hi : i = l.length := by have := of_decide_eq_false h; omega
   refine ⟨_, congrArg AV.val (congrArg Value.bool ?_), rfl⟩
   rw [hi, List.take_length] at h2
   rw [h2, hz]
   have e1 : decide ((1 : Int) ≤ (l.length : Int)) = decide (1 ≤ l.length) := by rw [decide_eq_decide]; omega
   have e2 : decide ((l.length : Int) ≤ 64) = decide (l.length ≤ 64) := by rw [decide_eq_decide]; omega
   rw [e1, e2, Bool.true_and]
theorem guid_eq (g : List UInt8) (hg : g.length = 16) : [g.getD 0 0, g.getD 1 0, g.getD 2 0, g.getD 3 0, g.getD 4 0, g.getD 5 0, g.getD 6 0, g.getD 7 0, g.getD 8 0, g.getD 9 0, g.getD 10 0, g.getD 11 0, g.getD 12 0, g.getD 13 0, g.getD 14 0, g.getD 15 0] = g := by
 match g, hg with
 | [_, _, _, _, _, _, _, _, _, _, _, _, _, _, _, _], _ => rfl
theorem guid_bs (g : List UInt8) (hg : g.length = 16) : List.map (fun n : Int => UInt8.ofNat n.toNat) [(((g.getD 0 0).toNat : Nat) : Int), (((g.getD 1 0).toNat : Nat) : Int), (((g.getD 2 0).toNat : Nat) : Int), (((g.getD 3 0).toNat : Nat) : Int), (((g.getD 4 0).toNat : Nat) : Int), (((g.getD 5 0).toNat : Nat) : Int), (((g.getD 6 0).toNat : Nat) : Int), (((g.getD 7 0).toNat : Nat) : Int), (((g.getD 8 0).toNat : Nat) : Int), (((g.getD 9 0).toNat : Nat) : Int), (((g.getD 10 0).toNat : Nat) : Int), (((g.getD 11 0).toNat : Nat) : Int), (((g.getD 12 0).toNat : Nat) : Int), (((g.getD 13 0).toNat : Nat) : Int), (((g.getD 14 0).toNat : Nat) : Int), (((g.getD 15 0).toNat : Nat) : Int)] = g := by
 refine Eq.trans ?_ (guid_eq g hg)
 simp
theorem okBytes_nat : ∀ (l : List UInt8), okBytes (l.map fun b => ((b.toNat : Nat) : Int))
 | [] => trivial
 | b :: l => ⟨⟨by show (0 : Int) ≤ ((b.toNat : Nat) : Int); omega, by show ((b.toNat : Nat) : Int) ≤ 255; have := b.toNat_lt; omega⟩, okBytes_nat l⟩
theorem key_vc (s : ByteArray) (hs : s.size ≤ 140737488355328) (g : List UInt8) (hg : g.length = 16) (hR : rightN s = true) : Spec Tryz.prog 97 [.val (.string s), .agg (bytesA 16 g)] []
   (pms (.tup [.own 3 3 1 0 (16 + s.size), .val (.int .i64 0)]) [] [(3, ⟨3, .bytes (g ++ s.data.toList)⟩)]) := by
 obtain ⟨l, hl⟩ : ∃ l, s.data.toList = l := ⟨_, rfl⟩
 have hz : s.size = l.length := by rw [← hl]; simp
 refine spec_entryW tbOk Tryz.func97 rfl Tryz.ntmps97 Tryz.results97 ?_
 refine gg (k := ?_)
 refine cdet (right_vc s hs) Tryz.call141 [] ?_
 rw [hR]
 refine gg (k := ?_)
 conv => whnf
 refine And.intro ⟨rfl, ⟨okBytes_nat [g.getD 0 0, g.getD 1 0, g.getD 2 0, g.getD 3 0, g.getD 4 0, g.getD 5 0, g.getD 6 0, g.getD 7 0, g.getD 8 0, g.getD 9 0, g.getD 10 0, g.getD 11 0, g.getD 12 0, g.getD 13 0, g.getD 14 0, g.getD 15 0], rfl, rfl⟩, rfl, rfl, rfl, by decide, by decide, by decide, by decide⟩ ?_
 rw [guid_bs g hg]
 refine gg (k := ?_)
 conv => whnf
 refine ⟨s.data.toList, ?_⟩
 conv => whnf
 rw [hl]
 have hR2 : l.length ≤ 64 := by
  unfold rightN at hR
  simp only [Bool.and_eq_true, decide_eq_true_eq] at hR
  omega
 refine And.intro ⟨rfl, trivial, rfl, rfl, rfl, hg.symm, rfl, rfl, (by simp only [hg]; omega), by decide⟩ ?_
 refine gg (k := ?_)
 refine ⟨_, leS_refl _, ?_⟩
 refine gg (k := ?_)
 refine ⟨_, ?_, rfl, rfl, trivial⟩
 rw [← hg, hz]
 rfl
end Go.Proofs.YtpbpiehcchannaaGreatDoor
