/- Walk of stamp: Write. Conditions: none. -/
import Derived.Test.YtpbpiehcchannaaGreatDoorJKb2
namespace Go.Proofs.YtpbpiehcchannaaGreatDoor
open Go.RowKit
set_option linter.unusedVariables false
set_option linter.unusedSimpArgs false
set_option maxRecDepth 100000
set_option maxHeartbeats 1500000
def u8 (x : Int) : UInt8 := UInt8.ofNat x.toNat
theorem put_nil (x : Int) (hx : 0 ≤ x ∧ x ≤ 18446744073709551615) (n : Int) (hn : n = 1 ∨ n = 2 ∨ n = 4 ∨ n = 8) : Spec Tryz.prog 110 [.val (.slice none 0 0), .val (.int .u64 x), .val (.int .i64 n)] []
   (pms (.own 7 5 1 0 n.toNat) [] [(7, ⟨5, .bytes (leB n.toNat x)⟩)]) := by
 have h := spec_ro (Put_vc [] (by decide) 0 x hx n hn) trivial ⟨trivial, trivial⟩ (rows := []) (args := [.val (.slice none 0 0), .val (.int .u64 x), .val (.int .i64 n)]) (asL_cons as_nil (asL_cons as_val (asL_cons as_val asL_nil)))
 have e : (([] : List UInt8).length + n.toNat) = n.toNat := Nat.zero_add _
 rw [e] at h
 exact h
def Tm.bytes (t : Tm) : List UInt8 := leB 2 t.y ++ [u8 t.m, u8 t.d, u8 t.h, u8 t.mi, u8 t.s] ++ List.replicate 9 0
theorem write_raw (t : Tm) (ht : t.ok) : Spec Tryz.prog 111 [.agg t.cells] [] (pms (.own 7 8 1 0 16) [] [(7, ⟨8, .bytes t.bytes⟩)]) := by
 obtain ⟨⟨a1, a2⟩, ⟨b1, b2⟩, ⟨c1, c2⟩, ⟨d1, d2⟩, ⟨e1, e2⟩, f1, f2⟩ := ht
 refine spec_entryW tbOk Tryz.func111 rfl Tryz.ntmps111 Tryz.results111 ?_
 refine gg (k := ?_)
 refine draw_of (p := 0) tbOk hm [0, 1, 3, 7, 0, 16, 0, 64, 0, 256, 0, 1024, 0, 4096, 16368, 32767, 65535] [⟨0, true, false, [5, 6, 7, 8, 9, 10, 11, 12, 13, 14, 15, 16, 17, 18, 19, 3]⟩, ⟨1, true, false, [6, 7, 8, 9, 10, 11, 12, 13, 14, 15, 16, 17, 18, 19, 3]⟩, ⟨2, true, false, [7, 8, 9, 10, 11, 12, 13, 14, 15, 16, 17, 18, 19, 3]⟩, ⟨4, true, false, [4, 5, 6, 7, 9, 10, 11, 12, 13, 14, 15, 16, 17, 18, 19, 3]⟩, ⟨5, true, false, [4, 5, 6, 7, 10, 11, 12, 13, 14, 15, 16, 17, 18, 19, 3]⟩, ⟨6, true, false, [4, 5, 6, 7, 8, 9, 11, 12, 13, 14, 15, 16, 17, 18, 19, 3]⟩, ⟨7, true, false, [4, 5, 6, 7, 8, 9, 12, 13, 14, 15, 16, 17, 18, 19, 3]⟩, ⟨8, true, false, [4, 5, 6, 7, 8, 9, 10, 11, 13, 14, 15, 16, 17, 18, 19, 3]⟩, ⟨9, true, false, [4, 5, 6, 7, 8, 9, 10, 11, 14, 15, 16, 17, 18, 19, 3]⟩, ⟨10, true, false, [4, 5, 6, 7, 8, 9, 10, 11, 12, 13, 15, 16, 17, 18, 19, 3]⟩, ⟨11, true, false, [4, 5, 6, 7, 8, 9, 10, 11, 12, 13, 16, 17, 18, 19, 3]⟩, ⟨12, true, false, [4, 5, 6, 7, 8, 9, 10, 11, 12, 13, 14, 15, 17, 18, 19, 3]⟩, ⟨13, true, false, [4, 5, 6, 7, 8, 9, 10, 11, 12, 13, 14, 15, 18, 19, 3]⟩, ⟨14, false, false, [18]⟩, ⟨3, true, false, [8, 9, 10, 11, 12, 13, 14, 15, 16, 17, 18, 19, 3]⟩, ⟨15, true, true, [3]⟩, ⟨16, false, false, []⟩] (by kernel_rfl) ?_
 iterate 40 refine gos (k := ?_)
 conv => whnf
 refine And.intro ?_ ?_
 ·repeat' (first | exact rfl | exact trivial | exact b1 | exact b2 | exact c1 | exact c2 | exact d1 | exact d2 | exact e1 | exact e2 | exact f1 | exact f2 | exact Nat.le_of_ble_eq_true rfl | refine And.intro ?_ ?_)
 refine And.intro ?_ ?_
 ·exact ⟨.inl rfl, trivial⟩
 refine gg (k := ?_)
 have ey : t.y % 18446744073709551616 = t.y := by omega
 rw [ey]
 refine cmks (put_nil t.y (by omega) 2 (by omega)) Tryz.call110 0 [0, 0, 0, 0, 0, 0, 0, 7] [0, 0, 0, 0, 0, 0, 0, 1] [7] ?_
 refine gg (k := ?_)
 conv => whnf
 refine ⟨[u8 t.m, u8 t.d, u8 t.h, u8 t.mi, u8 t.s], ?_⟩
 conv => whnf
 have hl2 := leB_len 2 t.y
 refine And.intro ⟨rfl, ⟨rfl, rfl, Nat.le_of_ble_eq_true rfl⟩, rfl, rfl, rfl, rfl, rfl, rfl, Nat.le_of_ble_eq_true rfl, by decide⟩ ?_
 refine gg (k := ?_)
 conv => whnf
 refine ⟨List.replicate 9 0, ?_⟩
 conv => whnf
 refine And.intro ⟨rfl, ⟨by decide, by decide, by decide, rfl, rfl⟩, rfl, rfl, rfl, rfl, rfl, rfl, Nat.le_of_ble_eq_true rfl, by decide⟩ ?_
 refine gg (k := ?_)
 refine ⟨_, leS_refl _, ?_⟩
 refine gg (k := ?_)
 exact ⟨_, rfl, rfl, rfl, trivial⟩
end Go.Proofs.YtpbpiehcchannaaGreatDoor
