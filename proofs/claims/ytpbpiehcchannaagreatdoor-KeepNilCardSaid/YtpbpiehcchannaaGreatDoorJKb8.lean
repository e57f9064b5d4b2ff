/- Walks of keep: no book; lintellaw21: vast, SameVar, begun, works. Conditions: none. -/
import Derived.Test.YtpbpiehcchannaaGreatDoorJKb7
namespace Go.Proofs.YtpbpiehcchannaaGreatDoor
open Go.RowKit
set_option linter.unusedVariables false
set_option linter.unusedSimpArgs false
set_option maxRecDepth 100000
set_option maxHeartbeats 1500000
theorem kget_nil (nm : ByteArray) (g : List UInt8) : Spec Tryz.prog 44 [.val (.pointer none), .val (.string nm), .agg (bytesA 16 g)] [] (pms (.tup [.agg (varA (.val (.slice none 0 0)) varZ), .val (.bool false), .val (.int .i64 2)]) [] []) := by
 refine spec_entry tbOk Tryz.func44 rfl Tryz.ntmps44 Tryz.results44 ?_
 refine gg (k := ?_)
 exact ⟨_, rfl, rfl, trivial⟩
theorem kput_nil (z : Nat) (v : VarV) : Spec Tryz.prog 59 [.val (.pointer none), .agg (varA (.bs z v.d) v)] [] (pms (.val (.int .i64 2)) [] []) := by
 refine spec_entry tbOk Tryz.func59 rfl Tryz.ntmps59 Tryz.results59 ?_
 unfold varA
 refine gg (k := ?_)
 exact ⟨_, rfl, rfl, trivial⟩
theorem kdrop_nil (nm : ByteArray) (g : List UInt8) : Spec Tryz.prog 60 [.val (.pointer none), .val (.string nm), .agg (bytesA 16 g)] [] (pms (.val (.int .i64 2)) [] []) := by
 refine spec_entry tbOk Tryz.func60 rfl Tryz.ntmps60 Tryz.results60 ?_
 refine gg (k := ?_)
 exact ⟨_, rfl, rfl, trivial⟩
theorem noYs_bytesA (n : Nat) (l : List UInt8) : noYs (bytesA n l) := by
 unfold bytesA
 generalize List.range n = r
 induction r with
 | nil => simp [noYs]
 | cons x r ih => simp only [List.map_cons, noYs, noY, true_and]; exact ih
theorem knext_nil (nm : ByteArray) (g : List UInt8) : Spec Tryz.prog 45 [.val (.pointer none), .val (.string nm), .agg (bytesA 16 g)] [] (pms (.tup [.val (.string ByteArray.empty), .agg (bytesA 16 []), .val (.int .i64 2)]) [] []) := by
 refine spec_entryR tbOk Tryz.func45 rfl Tryz.ntmps45 Tryz.results45 0 51 ?_
 refine gg (k := ?_)
 (refine sts (k := ?_))
 refine ⟨_, leS_refl _, by simp [noYs, noY, noYs_bytesA], by simp [noHs, noB, noYs, noY, takeL, dropL, noYs_bytesA], ?_⟩
 refine gg (k := ?_)
 exact ⟨_, rfl, rfl, trivial⟩
theorem kmark_nil : Spec Tryz.prog 47 [.val (.pointer none)] [] (pms (.tup [.val (.int .u8 0), .val (.int .i64 2)]) [] []) := by
 refine spec_entry tbOk Tryz.func47 rfl Tryz.ntmps47 Tryz.results47 ?_
 refine gg (k := ?_)
 exact ⟨_, rfl, rfl, trivial⟩
theorem kset_nil (x : Int) : Spec Tryz.prog 61 [.val (.pointer none), .val (.int .u8 x)] [] (pms (.val (.int .i64 2)) [] []) := by
 refine spec_entry tbOk Tryz.func61 rfl Tryz.ntmps61 Tryz.results61 ?_
 refine gg (k := ?_)
 exact ⟨_, rfl, rfl, trivial⟩
theorem kused_nil : Spec Tryz.prog 62 [.val (.pointer none)] [] (pms (.tup [.val (.int .i64 0), .val (.int .i64 2)]) [] []) := by
 refine spec_entry tbOk Tryz.func62 rfl Tryz.ntmps62 Tryz.results62 ?_
 refine gg (k := ?_)
 exact ⟨_, rfl, rfl, trivial⟩
theorem kroom_nil : Spec Tryz.prog 52 [.val (.pointer none)] [] (pms (.val (.int .i64 0)) [] []) := by
 refine spec_entry tbOk Tryz.func52 rfl Tryz.ntmps52 Tryz.results52 ?_
 refine gg (k := ?_)
 exact ⟨_, rfl, rfl, trivial⟩
end Go.Proofs.YtpbpiehcchannaaGreatDoor
