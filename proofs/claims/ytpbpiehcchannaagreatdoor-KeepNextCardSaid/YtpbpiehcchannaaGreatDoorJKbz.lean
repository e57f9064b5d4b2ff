/- A variable that is there, frozen; names compared. Conditions: none. -/
import Derived.Test.YtpbpiehcchannaaGreatDoorJKbk
namespace Go.Proofs.YtpbpiehcchannaaGreatDoor
open Go.RowKit
set_option linter.unusedVariables false
set_option linter.unusedSimpArgs false
set_option maxRecDepth 100000
set_option maxHeartbeats 3000000
theorem varA_AFL {mk : List (Nat × Ent)} {x y : AV} (h : AF mk x y) (v : VarV) : AFL mk (varA x v) (varA y v) := by
 unfold varA
 repeat (first | exact AFL.nil | refine AFL.cons AF.same ?_)
 exact AFL.cons h AFL.nil
theorem kget_z {W : Int} {n k : Nat} (s : FlS) (c : Nat) {M : List RK} (m : LK s c M) (go : Goes W n k s) (pa : Lies n k 0 c) (pb : Lies n k c c) (v : VarV) (hv : VOk v) (hm : rcdV v ∈ M) (vk vs va vb v0 v1 : Nat) : Spec Tryz.prog 44 [.ref 0 vk 1 0 0, .val (.string v.nm), .agg (bytesA 16 v.g)] [⟨vk, .obj [.ref 1 vs 3 0 0]⟩, ⟨vs, .obj [.ref 4 v0 6 0 0, .ref 2 va 3 0 0, .ref 3 vb 3 0 0]⟩, ⟨va, .obj [.ref 4 v0 6 0 0, .val (.int .i64 ((0 : Nat) : Int)), .val (.int .i64 (c : Int))]⟩, ⟨vb, .obj [.ref 4 v0 6 0 0, .val (.int .i64 (c : Int)), .val (.int .i64 (c : Int))]⟩, ⟨v0, .obj [.own 5 v1 1 0 s.l.length, .val (.int .i64 (s.k : Int)), .val (.int .i64 s.ar), .val (.int .i64 s.pt), .val (.bool s.dd), .val (.int .i64 s.wr)]⟩, ⟨v1, .bytes s.l⟩]
   (pms (.tup [.agg (varA (.bs 0 v.d) v), .val (.bool true), .val (.int .i64 0)]) [⟨vk, .obj [.ref 1 vs 3 0 0]⟩, ⟨vs, .obj [.ref 4 v0 6 0 0, .ref 2 va 3 0 0, .ref 3 vb 3 0 0]⟩, ⟨va, .obj [.ref 4 v0 6 0 0, .val (.int .i64 ((0 : Nat) : Int)), .val (.int .i64 (c : Int))]⟩, ⟨vb, .obj [.ref 4 v0 6 0 0, .val (.int .i64 (c : Int)), .val (.int .i64 (c : Int))]⟩, ⟨v0, .obj [.own 5 v1 1 0 s.l.length, .val (.int .i64 (s.k : Int)), .val (.int .i64 s.ar), .val (.int .i64 s.pt), .val (.bool s.dd), .val (.int .i64 s.wr)]⟩, ⟨v1, .bytes s.l⟩] []) :=
 spec_frz (kget_in s c m go pa pb v hv.ok hv.r hv.t (by have := hv.d; omega) hm vk vs va vb v0 v1) (by simp [geM]) (AF.tup (AFL.cons (AF.agg (varA_AFL (AF.own rfl rfl) v)) (AFL.cons AF.same (AFL.cons AF.same AFL.nil)))) ⟨rfl, BF.same, rfl, BF.same, rfl, BF.same, rfl, BF.same, rfl, BF.same, rfl, BF.same, trivial⟩
theorem ng_eq (a b : ByteArray) (g h : List UInt8) (hg : g.length = 16) (hh : h.length = 16) : (decide (a.data.toList = b.data.toList) && eqVs ((List.range 16).map fun i => bv (g.getD i 0)) ((List.range 16).map fun i => bv (h.getD i 0))) = decide (a = b ∧ g = h) := by
 rw [range_getD g 16 hg, range_getD h 16 hh, eqVs_bytes, Bool.eq_iff_iff]
 simp only [Bool.and_eq_true, decide_eq_true_eq]
 exact ⟨fun q => ⟨by rw [← strOf_toList a, q.1, strOf_toList], q.2⟩, fun q => ⟨by rw [q.1], q.2⟩⟩
end Go.Proofs.YtpbpiehcchannaaGreatDoor
