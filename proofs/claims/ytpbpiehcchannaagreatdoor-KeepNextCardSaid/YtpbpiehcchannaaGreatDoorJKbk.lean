/- What is done with a book whose store is a map of variables. Conditions: none. -/
import Derived.Test.YtpbpiehcchannaaGreatDoorJKbj
import Derived.Test.YtpbpiehcchannaaGreatDoorJKbm
namespace Go.Proofs.YtpbpiehcchannaaGreatDoor
open Go.RowKit
set_option linter.unusedVariables false
set_option linter.unusedSimpArgs false
set_option maxRecDepth 100000
set_option maxHeartbeats 1500000
theorem keyV_inj {a b : ByteArray} {g h : List UInt8} (hg : g.length = 16) (hh : h.length = 16) (e : keyV a g = keyV b h) : a = b ∧ g = h := by
 unfold keyV at e
 have e1 : g = h := by
  have := congrArg (List.take 16) e
  rwa [List.take_left' hg, List.take_left' hh] at this
 have e2 : a.data.toList = b.data.toList := by
  have := congrArg (List.drop 16) e
  rwa [List.drop_left' hg, List.drop_left' hh] at this
 exact ⟨by rw [← strOf_toList a, e2, strOf_toList], e1⟩
theorem Goes.delK {B : Int} {n k : Nat} {s : FlS} (g : Goes B n k s) (c : Nat) (key : List UInt8) : Goes (B + 1) n k (s.del c key).2 := by
 unfold FlS.del
 split
 ·exact g.mono (by omega)
 ·split
  ·exact g.mono (by omega)
  ·exact g.kill _ _ _
theorem NB.del {s : FlS} {y i : Nat} {M : List RK} (h : NB s y i M) (key : List UInt8) :
    (s.del 1 key = (3, s) ∧ NB s y (i + 1) M) ∨ (∃ s', s.del 1 key = (0, s') ∧ NB s' y (i + 1) (M.filter fun r => r.key != key)) := by
 obtain ⟨G, h1, h2⟩ := h.ex
 have hgo := h.go.delK 1 key
 obtain ⟨a, b⟩ := h2.del key
 by_cases hf : ∃ r ∈ M, r.key = key
 ·obtain ⟨s', e, n⟩ := b hf
  rw [e] at hgo
  refine .inr ⟨s', e, ⟨G, by push_cast; omega, n⟩, hgo.mono (by push_cast; omega), fun r hr => h.rc r (List.mem_filter.1 hr).1, ?_⟩
  have := List.length_filter_le (fun r : RK => r.key != key) M
  have := h.len
  omega
 ·exact .inl ⟨a fun r hr e => hf ⟨r, hr, e⟩, h.up⟩
theorem kget_badK (s : FlS) (c : Nat) (nm : ByteArray) (hn : nm.size ≤ 140737488355328) (g : List UInt8) (hr : rightN nm = false) (vk vs va vb v0 v1 : Nat) : Spec Tryz.prog 44 [.ref 0 vk 1 0 0, .val (.string nm), .agg (bytesA 16 g)] [⟨vk, .obj [.ref 1 vs 3 0 0]⟩, ⟨vs, .obj [.ref 4 v0 6 0 0, .ref 2 va 3 0 0, .ref 3 vb 3 0 0]⟩, ⟨va, .obj [.ref 4 v0 6 0 0, .val (.int .i64 ((0 : Nat) : Int)), .val (.int .i64 (c : Int))]⟩, ⟨vb, .obj [.ref 4 v0 6 0 0, .val (.int .i64 (c : Int)), .val (.int .i64 (c : Int))]⟩, ⟨v0, .obj [.own 5 v1 1 0 s.l.length, .val (.int .i64 (s.k : Int)), .val (.int .i64 s.ar), .val (.int .i64 s.pt), .val (.bool s.dd), .val (.int .i64 s.wr)]⟩, ⟨v1, .bytes s.l⟩]
   (pms (.tup [.agg (varA (.val (.slice none 0 0)) varZ), .val (.bool false), .val (.int .i64 1)]) [⟨vk, .obj [.ref 1 vs 3 0 0]⟩, ⟨vs, .obj [.ref 4 v0 6 0 0, .ref 2 va 3 0 0, .ref 3 vb 3 0 0]⟩, ⟨va, .obj [.ref 4 v0 6 0 0, .val (.int .i64 ((0 : Nat) : Int)), .val (.int .i64 (c : Int))]⟩, ⟨vb, .obj [.ref 4 v0 6 0 0, .val (.int .i64 (c : Int)), .val (.int .i64 (c : Int))]⟩, ⟨v0, .obj [.own 5 v1 1 0 s.l.length, .val (.int .i64 (s.k : Int)), .val (.int .i64 s.ar), .val (.int .i64 s.pt), .val (.bool s.dd), .val (.int .i64 s.wr)]⟩, ⟨v1, .bytes s.l⟩] []) := by
 have hKy := key_no nm hn g hr
 refine spec_entry tbOk Tryz.func44 rfl Tryz.ntmps44 Tryz.results44 ?_
 refine gg (k := ?_)
 refine cdet (hKy) Tryz.call97 (hon := rowu) [] ?_
 refine gg (k := ?_)
 exact ⟨_, rfl, rfl, trivial⟩
theorem nextA_tup (ks : List (List UInt8)) (beh : List UInt8) : ∃ (a : ByteArray) (b : List UInt8) (e : Int), nextA ks beh = .tup [.val (.string a), .agg (bytesA 16 b), .val (.int .i64 e)] := by
 unfold nextA
 cases nextK ks beh with
 | some k => exact ⟨_, _, _, rfl⟩
 | none => exact ⟨_, _, _, rfl⟩
theorem NB.there {s : FlS} {y i : Nat} {M : List RK} (h : NB s y i M) {nm : ByteArray} {g : List UInt8} (hg : g.length = 16) (hm : ∃ r ∈ M, r.key = keyV nm g) : ∃ v, VOk v ∧ rcdV v ∈ M ∧ v.nm = nm ∧ v.g = g := by
 obtain ⟨r, hr, e⟩ := hm
 rcases h.rc r hr with ⟨v, hv, rfl⟩ | ⟨x, rfl⟩
 ·obtain ⟨e1, e2⟩ := keyV_inj hv.ok.g hg e
  exact ⟨v, hv, hr, e1, e2⟩
 ·have := congrArg List.length e
  unfold keyV at this
  rw [List.length_append, hg] at this
  have h4 : markK.length = 4 := rfl
  simp only at this
  omega
end Go.Proofs.YtpbpiehcchannaaGreatDoor
