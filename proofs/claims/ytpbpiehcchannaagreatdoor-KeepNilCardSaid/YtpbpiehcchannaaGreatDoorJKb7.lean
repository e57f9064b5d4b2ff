/- Walks of keep: Open, Get, Used, Room. Conditions: none. -/
import Derived.Test.YtpbpiehcchannaaGreatDoorJKb6
import Derived.Test.YtpbpiehcchannaaGreatDoorJHk
namespace Go.Proofs.YtpbpiehcchannaaGreatDoor
open Go.RowKit
set_option linter.unusedVariables false
set_option linter.unusedSimpArgs false
set_option maxRecDepth 100000
set_option maxHeartbeats 1500000
theorem kopen_nil : Spec Tryz.prog 58 [.val (.pointer none)] [] (pms (.tup [.val (.pointer none), .val (.int .i64 2)]) [] []) := by
 refine spec_entry tbOk Tryz.func58 rfl Tryz.ntmps58 Tryz.results58 ?_
 refine gg (k := ?_)
 refine cmks (open_nil) Tryz.call17 0 [] [] [] ?_
 refine gg (k := ?_)
 exact ⟨_, rfl, rfl, trivial⟩
theorem kopen_vc {W : Int} {n k : Nat} (s : FlS) (c : Nat) (go : Goes W n k s) (hW : W ≤ 1000000000000000) (pa : Lies n k 0 c) (pb : Lies n k c c) (hn : n = 2 * c * k) (hd : s.dd = false) (h0 : (s.opn c).1 = 0) (v0 v1 : Nat) : Spec Tryz.prog 58 [.ref 0 v0 6 0 0] [⟨v0, .obj [.own 1 v1 1 0 s.l.length, .val (.int .i64 (s.k : Int)), .val (.int .i64 s.ar), .val (.int .i64 s.pt), .val (.bool s.dd), .val (.int .i64 s.wr)]⟩, ⟨v1, .bytes s.l⟩]
   (pms (.tup [.ref 18 1 1 0 0, .val (.int .i64 0)]) [⟨v0, .obj [.own 1 v1 1 0 (s.opn c).2.l.length, .val (.int .i64 ((s.opn c).2.k : Int)), .val (.int .i64 (s.opn c).2.ar), .val (.int .i64 (s.opn c).2.pt), .val (.bool (s.opn c).2.dd), .val (.int .i64 (s.opn c).2.wr)]⟩, ⟨v1, .bytes (s.opn c).2.l⟩] [(18, ⟨1, .obj [.ref 10 2 3 0 0]⟩), (10, ⟨2, .obj [.ref 0 v0 6 0 0, .ref 11 3 3 0 0, .ref 12 3 3 0 0]⟩), (11, ⟨3, .obj [.ref 0 v0 6 0 0, .val (.int .i64 ((0 : Nat) : Int)), .val (.int .i64 (c : Int))]⟩), (12, ⟨3, .obj [.ref 0 v0 6 0 0, .val (.int .i64 (c : Int)), .val (.int .i64 (c : Int))]⟩)]) := by
 have hop := spec_mono (open_vc s c go hW pa pb hn hd v0 v1) fun X H q => q.1 h0
 refine spec_entry tbOk Tryz.func58 rfl Tryz.ntmps58 Tryz.results58 ?_
 refine gg (k := ?_)
 refine cmks (hop) Tryz.call17 2 [0, 1, 0, 0, 0, 0, 0, 0, 0, 0, 0, 0, 0, 0, 0, 0, 0, 0, 0, 0, 0, 0, 0, 0, 0, 0, 0, 0, 0, 0, 0, 0, 0, 0, 0, 0, 0, 0, 0, 10, 0, 0, 0, 0, 0, 0, 0, 0, 0, 0, 0, 0, 0, 0, 0, 0, 0, 0, 0, 0, 0, 0, 0, 0, 0, 0, 0, 0, 0, 0, 0, 0, 0, 0, 0, 0, 0, 0, 0, 0, 11, 12] [0, 0, 0, 0, 0, 0, 0, 0, 0, 0, 0, 0, 0, 0, 0, 0, 0, 0, 0, 0, 0, 0, 0, 0, 0, 0, 0, 0, 0, 0, 0, 0, 0, 0, 0, 0, 0, 0, 0, 1, 0, 0, 0, 0, 0, 0, 0, 0, 0, 0, 0, 0, 0, 0, 0, 0, 0, 0, 0, 0, 0, 0, 0, 0, 0, 0, 0, 0, 0, 0, 0, 0, 0, 0, 0, 0, 0, 0, 0, 0, 1, 1] [39, 80, 81] ?_
 refine gg (k := ?_)
 exact ⟨_, rfl, rfl, rfl, rfl, rfl, rfl, trivial⟩
theorem kused_vc {W : Int} {n k : Nat} (s : FlS) (c : Nat) {M : List RK} (m : LK s c M) (go : Goes W n k s) (pa : Lies n k 0 c) (pb : Lies n k c c) (vk vs va vb v0 v1 : Nat) : Spec Tryz.prog 62 [.ref 0 vk 1 0 0] [⟨vk, .obj [.ref 1 vs 3 0 0]⟩, ⟨vs, .obj [.ref 4 v0 6 0 0, .ref 2 va 3 0 0, .ref 3 vb 3 0 0]⟩, ⟨va, .obj [.ref 4 v0 6 0 0, .val (.int .i64 ((0 : Nat) : Int)), .val (.int .i64 (c : Int))]⟩, ⟨vb, .obj [.ref 4 v0 6 0 0, .val (.int .i64 (c : Int)), .val (.int .i64 (c : Int))]⟩, ⟨v0, .obj [.own 5 v1 1 0 s.l.length, .val (.int .i64 (s.k : Int)), .val (.int .i64 s.ar), .val (.int .i64 s.pt), .val (.bool s.dd), .val (.int .i64 s.wr)]⟩, ⟨v1, .bytes s.l⟩]
   (pms (.tup [.val (.int .i64 (usedK M : Int)), .val (.int .i64 0)]) [⟨vk, .obj [.ref 1 vs 3 0 0]⟩, ⟨vs, .obj [.ref 4 v0 6 0 0, .ref 2 va 3 0 0, .ref 3 vb 3 0 0]⟩, ⟨va, .obj [.ref 4 v0 6 0 0, .val (.int .i64 ((0 : Nat) : Int)), .val (.int .i64 (c : Int))]⟩, ⟨vb, .obj [.ref 4 v0 6 0 0, .val (.int .i64 (c : Int)), .val (.int .i64 (c : Int))]⟩, ⟨v0, .obj [.own 5 v1 1 0 s.l.length, .val (.int .i64 (s.k : Int)), .val (.int .i64 s.ar), .val (.int .i64 s.pt), .val (.bool s.dd), .val (.int .i64 s.wr)]⟩, ⟨v1, .bytes s.l⟩] []) := by
 have hus := used_map s c m go pa pb vs va vb v0 v1
 clear m
 refine spec_entry tbOk Tryz.func62 rfl Tryz.ntmps62 Tryz.results62 ?_
 refine gg (k := ?_)
 refine cmks (hus) Tryz.call74 5 [1, 2, 3, 4, 5] [0, 0, 0, 0, 0] [] ?_
 refine gg (k := ?_)
 exact ⟨_, rfl, rfl, trivial⟩
theorem getm_own {W : Int} {n k : Nat} (s : FlS) (c : Nat) {M : List RK} (m : LK s c M) (g : Goes W n k s) (pa : Lies n k 0 c) (pb : Lies n k c c) (r : RK) (hr : r ∈ M) (kn : Nat) (hkn : kn = r.key.length) (vs va vb v0 v1 v2 : Nat) : Spec Tryz.prog 64 [.ref 0 vs 3 0 0, .own 5 v2 1 0 kn] [⟨vs, .obj [.ref 3 v0 6 0 0, .ref 1 va 3 0 0, .ref 2 vb 3 0 0]⟩, ⟨va, .obj [.ref 3 v0 6 0 0, .val (.int .i64 ((0 : Nat) : Int)), .val (.int .i64 (c : Int))]⟩, ⟨vb, .obj [.ref 3 v0 6 0 0, .val (.int .i64 (c : Int)), .val (.int .i64 (c : Int))]⟩, ⟨v0, .obj [.own 4 v1 1 0 s.l.length, .val (.int .i64 (s.k : Int)), .val (.int .i64 s.ar), .val (.int .i64 s.pt), .val (.bool s.dd), .val (.int .i64 s.wr)]⟩, ⟨v1, .bytes s.l⟩, ⟨v2, .bytes r.key⟩]
   (pms (.tup [.bs 0 r.val, .val (.bool true), .val (.int .i64 0)]) [⟨vs, .obj [.ref 3 v0 6 0 0, .ref 1 va 3 0 0, .ref 2 vb 3 0 0]⟩, ⟨va, .obj [.ref 3 v0 6 0 0, .val (.int .i64 ((0 : Nat) : Int)), .val (.int .i64 (c : Int))]⟩, ⟨vb, .obj [.ref 3 v0 6 0 0, .val (.int .i64 (c : Int)), .val (.int .i64 (c : Int))]⟩, ⟨v0, .obj [.own 4 v1 1 0 s.l.length, .val (.int .i64 (s.k : Int)), .val (.int .i64 s.ar), .val (.int .i64 s.pt), .val (.bool s.dd), .val (.int .i64 s.wr)]⟩, ⟨v1, .bytes s.l⟩, ⟨v2, .bytes r.key⟩] []) := by
 obtain ⟨i, l, e, b, hi, hci, hS, _, hlk⟩ := m.look
 obtain ⟨j, d, hj, hk, hv⟩ := hlk r hr
 have hp := (poolOf_get l j d hj).2
 rw [hv] at hp
 rcases hi with rfl | rfl
 ·simp only [Nat.zero_mul] at hS
  exact spec_frz (getS_own0 s c g pa pb m.live hci hS r.key j d hj hk kn hkn vs va vb v0 v1 v2) (by simp [geM]) (AF.tup (AFL.cons (AF.pl rfl hp (by rw [hv])) (AFL.cons AF.same (AFL.cons AF.same AFL.nil)))) ⟨rfl, BF.same, rfl, BF.same, rfl, BF.same, rfl, BF.same, rfl, BF.same, rfl, BF.same, trivial⟩
 ·simp only [Nat.one_mul] at hS
  exact spec_frz (getS_own1 s c g pa pb m.live hci hS r.key j d hj hk kn hkn vs va vb v0 v1 v2) (by simp [geM]) (AF.tup (AFL.cons (AF.pl rfl hp (by rw [hv])) (AFL.cons AF.same (AFL.cons AF.same AFL.nil)))) ⟨rfl, BF.same, rfl, BF.same, rfl, BF.same, rfl, BF.same, rfl, BF.same, rfl, BF.same, trivial⟩
theorem kget_in {W : Int} {n k : Nat} (s : FlS) (c : Nat) {M : List RK} (m : LK s c M) (go : Goes W n k s) (pa : Lies n k 0 c) (pb : Lies n k c c) (v : VarV) (hv : v.Ok) (hr : rightN v.nm = true) (ht : v.t.good) (hd6 : v.d.length ≤ 1000000) (hm : (⟨keyV v.nm v.g, laidV v, true⟩ : RK) ∈ M) (vk vs va vb v0 v1 : Nat) : Spec Tryz.prog 44 [.ref 0 vk 1 0 0, .val (.string v.nm), .agg (bytesA 16 v.g)] [⟨vk, .obj [.ref 1 vs 3 0 0]⟩, ⟨vs, .obj [.ref 4 v0 6 0 0, .ref 2 va 3 0 0, .ref 3 vb 3 0 0]⟩, ⟨va, .obj [.ref 4 v0 6 0 0, .val (.int .i64 ((0 : Nat) : Int)), .val (.int .i64 (c : Int))]⟩, ⟨vb, .obj [.ref 4 v0 6 0 0, .val (.int .i64 (c : Int)), .val (.int .i64 (c : Int))]⟩, ⟨v0, .obj [.own 5 v1 1 0 s.l.length, .val (.int .i64 (s.k : Int)), .val (.int .i64 s.ar), .val (.int .i64 s.pt), .val (.bool s.dd), .val (.int .i64 s.wr)]⟩, ⟨v1, .bytes s.l⟩]
   (pms (.tup [.agg (varA (.own 54 4 1 0 v.d.length) v), .val (.bool true), .val (.int .i64 0)]) [⟨vk, .obj [.ref 1 vs 3 0 0]⟩, ⟨vs, .obj [.ref 4 v0 6 0 0, .ref 2 va 3 0 0, .ref 3 vb 3 0 0]⟩, ⟨va, .obj [.ref 4 v0 6 0 0, .val (.int .i64 ((0 : Nat) : Int)), .val (.int .i64 (c : Int))]⟩, ⟨vb, .obj [.ref 4 v0 6 0 0, .val (.int .i64 (c : Int)), .val (.int .i64 (c : Int))]⟩, ⟨v0, .obj [.own 5 v1 1 0 s.l.length, .val (.int .i64 (s.k : Int)), .val (.int .i64 s.ar), .val (.int .i64 s.pt), .val (.bool s.dd), .val (.int .i64 s.wr)]⟩, ⟨v1, .bytes s.l⟩] [(54, ⟨4, .bytes v.d⟩)]) := by
 have hKy := key_vc v.nm hv.nm v.g hv.g hr
 have hkl : (keyV v.nm v.g).length = 16 + v.nm.size := by unfold keyV; rw [List.length_append, hv.g]; simp
 have hG := fun v2 => getm_own s c m go pa pb _ hm (16 + v.nm.size) hkl.symm vs va vb v0 v1 v2
 have hRd := read_v v hv hd6 ht 0
 clear m hm
 refine spec_entry tbOk Tryz.func44 rfl Tryz.ntmps44 Tryz.results44 ?_
 refine gg (k := ?_)
 refine cmks (hKy) Tryz.call97 0 [0, 0, 0, 26] [0, 0, 0, 1] [3] ?_
 refine gg (k := ?_)
 refine cmks (hG 4) Tryz.call64 6 [1, 2, 3, 4, 5, 26] [0, 0, 0, 0, 0, 0] [] ?_
 refine gg (k := ?_)
 refine cmks (hRd) Tryz.call98 0 [0, 0, 0, 0, 0, 0, 0, 0, 0, 0, 0, 0, 0, 0, 0, 0, 0, 0, 0, 0, 0, 0, 0, 0, 0, 0, 0, 0, 0, 0, 0, 0, 0, 0, 0, 0, 0, 0, 54] [0, 0, 0, 0, 0, 0, 0, 0, 0, 0, 0, 0, 0, 0, 0, 0, 0, 0, 0, 0, 0, 0, 0, 0, 0, 0, 0, 0, 0, 0, 0, 0, 0, 0, 0, 0, 0, 0, 1] [38] ?_
 unfold varA
 refine gg (k := ?_)
 exact ⟨_, rfl, rfl, rfl, trivial⟩
def varZ : VarV := ⟨ByteArray.empty, List.replicate 16 0, 0, ⟨0, 0, 0, 0, 0, 0⟩, List.replicate 32 0, []⟩
end Go.Proofs.YtpbpiehcchannaaGreatDoor
