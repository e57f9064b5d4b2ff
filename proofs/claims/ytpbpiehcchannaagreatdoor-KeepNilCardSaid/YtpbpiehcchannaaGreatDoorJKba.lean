/- Walks of lintellaw21: begun, works. Conditions: none. -/
import Derived.Test.YtpbpiehcchannaaGreatDoorJKb9
namespace Go.Proofs.YtpbpiehcchannaaGreatDoor
open Go.RowKit
set_option linter.unusedVariables false
set_option linter.unusedSimpArgs false
set_option maxRecDepth 100000
set_option maxHeartbeats 1500000
def yOf (z : Int) : Nat := (128 + z % 2048).toNat
theorem yOf_eq (z : Int) : ((yOf z : Nat) : Int) = 128 + z % 2048 := by unfold yOf; omega
theorem yOf_bd (z : Int) : 128 ≤ yOf z ∧ yOf z ≤ 2175 := by have := yOf_eq z; omega
theorem begun_vc (z : Int) (hz : 0 ≤ z ∧ z ≤ 65535) (s1 : FlS) (h1 : (FlS.new 2 (yOf z)).opn 1 = (0, s1)) : Spec Tryz.prog 50 [.val (.int .u16 z)] []
   (pms (.tup [.ref 20 2 6 0 0, .ref 21 2 1 0 0]) [] [(20, ⟨2, .obj [.own 22 3 1 0 s1.l.length, .val (.int .i64 (s1.k : Int)), .val (.int .i64 s1.ar), .val (.int .i64 s1.pt), .val (.bool s1.dd), .val (.int .i64 s1.wr)]⟩), (22, ⟨3, .bytes s1.l⟩), (21, ⟨2, .obj [.ref 23 3 3 0 0]⟩), (23, ⟨3, .obj [.ref 20 2 6 0 0, .ref 24 4 3 0 0, .ref 25 4 3 0 0]⟩), (24, ⟨4, .obj [.ref 20 2 6 0 0, .val (.int .i64 ((0 : Nat) : Int)), .val (.int .i64 ((1 : Nat) : Int))]⟩), (25, ⟨4, .obj [.ref 20 2 6 0 0, .val (.int .i64 ((1 : Nat) : Int)), .val (.int .i64 ((1 : Nat) : Int))]⟩)]) := by
 obtain ⟨y1, y2⟩ := yOf_bd z
 have hy := yOf_eq z
 obtain ⟨y, hye⟩ : ∃ y, y = yOf z := ⟨_, rfl⟩
 rw [← hye] at y1 y2 hy h1
 have la : Lies (2 * y) y 0 1 := ⟨by omega, by omega, by omega, by omega⟩
 have lb : Lies (2 * y) y 1 1 := ⟨by omega, by omega, by omega, by omega⟩
 have g0 : Goes 0 (2 * y) y (FlS.new 2 y) := Goes.new 2 y (by decide) (by omega)
 have hN := spec_new 2 y (by decide) (by omega)
 have hop := kopen_vc (FlS.new 2 y) 1 g0 (by decide) la lb (by omega) rfl (by rw [h1]) 2 3
 rw [h1] at hop
 generalize FlS.new 2 y = S at hN hop
 refine spec_entry tbOk Tryz.func50 rfl Tryz.ntmps50 Tryz.results50 ?_
 refine gg (k := ?_)
 rw [← hy]
 refine cmks (hN) Tryz.call26 0 [0, 0, 0, 0, 0, 0, 0, 0, 0, 0, 0, 0, 0, 0, 0, 0, 0, 0, 0, 0, 0, 0, 0, 0, 22, 0, 0, 20] [0, 0, 0, 0, 0, 0, 0, 0, 0, 0, 0, 0, 0, 0, 0, 0, 0, 0, 0, 0, 0, 0, 0, 0, 1, 0, 0, 1] [27, 24] ?_
 refine gg (k := ?_)
 refine cmks (hop) Tryz.call58 2 [20, 22, 0, 0, 0, 0, 0, 0, 0, 0, 23, 24, 25, 0, 0, 0, 0, 0, 21] [0, 0, 0, 0, 0, 0, 0, 0, 0, 0, 1, 1, 1, 0, 0, 0, 0, 0, 1] [18, 10, 11, 12] ?_
 refine gg (k := ?_)
 exact ⟨_, rfl, rfl, rfl, rfl, rfl, rfl, rfl, rfl, trivial⟩
end Go.Proofs.YtpbpiehcchannaaGreatDoor
