/- The walk of the statement VnameAttrs. Conditions: the argument fits its kind. -/
import Derived.Test.YtccelefolepmeaaVn8
import Derived.Test.YtccelefolepmeaaOp
namespace Go.Proofs.Ytccelefolepmeaa
open Go.RowKit
set_option linter.unusedVariables false

def plainB (a : Int) : Bool := a == 3 || a == 7 || a == 35 || a == 39 || a == 67 || a == 71 || a == 99 || a == 103
def dataB (a : Int) : Bool := a == 39 || a == 103
theorem andnot_eq (a : Int) (h0 : 0 ≤ a) (h1 : a < 4294967296) : bits BinOp.andNot IntKind.u32 a 103 = ((a.toNat &&& 4294967192 : Nat) : Int) := by
  obtain ⟨n, rfl⟩ := Int.eq_ofNat_of_zero_le h0
  have hn : n < 4294967296 := by omega
  unfold bits
  have e : (BitVec.ofInt 32 (n : Int) &&& ~~~BitVec.ofInt 32 103).toNat = n &&& 4294967192 := by
    have : (~~~BitVec.ofInt 32 103).toNat = 4294967192 := by decide
    rw [BitVec.toNat_and, this]
    simp [Nat.mod_eq_of_lt hn]
  show IntKind.u32.wrap ((BitVec.ofInt 32 (n : Int) &&& ~~~BitVec.ofInt 32 103).toNat : Int) = _
  rw [e]
  have hle : n &&& 4294967192 ≤ 4294967192 := Nat.and_le_right
  simp only [IntKind.wrap, Int.toNat_natCast]
  simp [IntKind.signed, IntKind.bits]
  omega
theorem andnot_big (n : Nat) (h0 : 128 ≤ n) (h1 : n < 4294967296) : n &&& 4294967192 ≠ 0 := by
  intro h
  have h2 : (n &&& 4294967192) >>> 7 = n >>> 7 &&& 4294967192 >>> 7 := Nat.shiftRight_and_distrib ..
  rw [h, show (4294967192 : Nat) >>> 7 = 2 ^ 25 - 1 from rfl, Nat.and_two_pow_sub_one_eq_mod, Nat.shiftRight_eq_div_pow] at h2
  simp at h2
  omega
theorem fits_small : ∀ n : Fin 128, (decide (fitsF 0 n = 0) = plainB n ∧ decide (fitsF 4 n = 0) = plainB n) ∧ decide (fitsF 2 n = 0) = dataB n ∧ decide (fitsF 3 n = 0) = dataB n ∧ decide (fitsF 1 n = 0) = ((n : Int) == 39) := by decide +kernel
theorem fits_big {k a : Int} (h0 : 128 ≤ a) (h1 : a < 4294967296) : decide (fitsF k a = 0) = false := by
  have : (bits BinOp.andNot IntKind.u32 a 103 != 0) = true := by
    rw [andnot_eq a (by omega) h1]
    have := andnot_big a.toNat (by omega) (by omega)
    simp; omega
  simp [fitsF, this]
theorem fits_all {a : Int} (h0 : 0 ≤ a) (h1 : a < 4294967296) : (decide (fitsF 0 a = 0) = plainB a ∧ decide (fitsF 4 a = 0) = plainB a) ∧ decide (fitsF 2 a = 0) = dataB a ∧ decide (fitsF 3 a = 0) = dataB a ∧ decide (fitsF 1 a = 0) = (a == 39) := by
  by_cases h : a < 128
  · have := fits_small ⟨a.toNat, by omega⟩
    simp only [show ((a.toNat : Nat) : Int) = a by omega] at this
    exact this
  · have e := fun k => fits_big (k := k) (a := a) (by omega) h1
    simp only [e]
    have e1 : plainB a = false := by simp [plainB]; omega
    have e2 : dataB a = false := by simp [dataB]; omega
    have e3 : (a == 39) = false := by simp; omega
    rw [e1, e2, e3]; simp
theorem fits_hi {k a : Int} (h : 4 < k) : decide (fitsF k a = 0) = false := by simp [fitsF, h]
set_option maxHeartbeats 4000000 in
theorem walk_VnameAttrs (a : Int) (wa : (Lit.int .u32 a).wf = true) (w : World) :
    Calls Try.prog 3 #[.int .u32 a] w fun e w' => e = .returned (.bool true) ∧ Below w.heap.size w w' := by
  obtain ⟨h0, h1⟩ := bounds_u32 wa
  have h1' : a < 4294967296 := by omega
  have FA := Lib.hid (fits_all h0 h1')
  have hcase : a = 3 ∨ a = 7 ∨ a = 35 ∨ a = 39 ∨ a = 67 ∨ a = 71 ∨ a = 99 ∨ a = 103 ∨ ((a == 3) = false ∧ (a == 7) = false ∧ (a == 35) = false ∧ (a == 39) = false ∧ (a == 67) = false ∧ (a == 71) = false ∧ (a == 99) = false ∧ (a == 103) = false) := by
    simp only [beq_eq_false_iff_ne]; omega
  clear wa h1
  rcases hcase with rfl | rfl | rfl | rfl | rfl | rfl | rfl | rfl | ⟨e1, e2, e3, e4, e5, e6, e7, e8⟩
  · have F0 := FA.out.1.1.trans (show plainB 3 = true from (by decide))
    have F4 := FA.out.1.2.trans (show plainB 3 = true from (by decide))
    have F2 := FA.out.2.1.trans (show dataB 3 = false from (by decide))
    have F3 := FA.out.2.2.1.trans (show dataB 3 = false from (by decide))
    have F1 := FA.out.2.2.2.trans (show ((3 : Int) == 39) = false from (by decide))
    have G0 := Lib.hid F0; clear F0
    have G1 := Lib.hid F1; clear F1
    have G2 := Lib.hid F2; clear F2
    have G3 := Lib.hid F3; clear F3
    have G4 := Lib.hid F4; clear F4
    go_enter Try.func3, Try.ntmps3
    go_wp2_with fail
    go_loop [5] (fun i => ∃ k : Int, 5 ≤ k ∧ k ≤ 256 ∧ i = .int .i64 k) (fun i => (256 - intOf i).toNat)
    case atStart => exact ⟨5, by omega, by omega, rfl⟩
    case round =>
      obtain ⟨k, hk1, hk2, rfl⟩ := hrel
      by_cases hlt : k < 256
      · go_wp2_with fail
        refine (lawFits_spec k _ _ (by omega) (by omega) (by omega) (by omega)).mono ?_
        rintro e w1 ⟨rfl, rfl⟩
        rw [fits_hi (by omega)]
        go_wp2_with fail
        go_round
        case rel => exact ⟨k + 1, by omega, by omega, rfl⟩
        case measure => simp [intOf]; omega
      · obtain rfl : k = 256 := by omega
        go_wp2_with fail
        refine (lawFits_spec 0 _ _ (by omega) (by omega) (by omega) (by omega)).mono ?_
        rintro e w1 ⟨rfl, rfl⟩
        rw [G0.out]
        go_wp2_with fail
        refine (lawFits_spec 4 _ _ (by omega) (by omega) (by omega) (by omega)).mono ?_
        rintro e w1 ⟨rfl, rfl⟩
        rw [G4.out]
        go_wp2_with fail
        refine (lawFits_spec 2 _ _ (by omega) (by omega) (by omega) (by omega)).mono ?_
        rintro e w1 ⟨rfl, rfl⟩
        rw [G2.out]
        go_wp2_with fail
        refine (lawFits_spec 3 _ _ (by omega) (by omega) (by omega) (by omega)).mono ?_
        rintro e w1 ⟨rfl, rfl⟩
        rw [G3.out]
        go_wp2_with fail
        refine (lawFits_spec 1 _ _ (by omega) (by omega) (by omega) (by omega)).mono ?_
        rintro e w1 ⟨rfl, rfl⟩
        rw [G1.out]
        go_wp2_with fail
        refine (works_spec _).mono ?_
        rintro e w1 ⟨rfl, hb⟩
        have HB := Lib.hid hb; clear hb
        go_wp2_with fail
        go_ret
        exact ⟨rfl, HB.out⟩
  · have F0 := FA.out.1.1.trans (show plainB 7 = true from (by decide))
    have F4 := FA.out.1.2.trans (show plainB 7 = true from (by decide))
    have F2 := FA.out.2.1.trans (show dataB 7 = false from (by decide))
    have F3 := FA.out.2.2.1.trans (show dataB 7 = false from (by decide))
    have F1 := FA.out.2.2.2.trans (show ((7 : Int) == 39) = false from (by decide))
    have G0 := Lib.hid F0; clear F0
    have G1 := Lib.hid F1; clear F1
    have G2 := Lib.hid F2; clear F2
    have G3 := Lib.hid F3; clear F3
    have G4 := Lib.hid F4; clear F4
    go_enter Try.func3, Try.ntmps3
    go_wp2_with fail
    go_loop [5] (fun i => ∃ k : Int, 5 ≤ k ∧ k ≤ 256 ∧ i = .int .i64 k) (fun i => (256 - intOf i).toNat)
    case atStart => exact ⟨5, by omega, by omega, rfl⟩
    case round =>
      obtain ⟨k, hk1, hk2, rfl⟩ := hrel
      by_cases hlt : k < 256
      · go_wp2_with fail
        refine (lawFits_spec k _ _ (by omega) (by omega) (by omega) (by omega)).mono ?_
        rintro e w1 ⟨rfl, rfl⟩
        rw [fits_hi (by omega)]
        go_wp2_with fail
        go_round
        case rel => exact ⟨k + 1, by omega, by omega, rfl⟩
        case measure => simp [intOf]; omega
      · obtain rfl : k = 256 := by omega
        go_wp2_with fail
        refine (lawFits_spec 0 _ _ (by omega) (by omega) (by omega) (by omega)).mono ?_
        rintro e w1 ⟨rfl, rfl⟩
        rw [G0.out]
        go_wp2_with fail
        refine (lawFits_spec 4 _ _ (by omega) (by omega) (by omega) (by omega)).mono ?_
        rintro e w1 ⟨rfl, rfl⟩
        rw [G4.out]
        go_wp2_with fail
        refine (lawFits_spec 2 _ _ (by omega) (by omega) (by omega) (by omega)).mono ?_
        rintro e w1 ⟨rfl, rfl⟩
        rw [G2.out]
        go_wp2_with fail
        refine (lawFits_spec 3 _ _ (by omega) (by omega) (by omega) (by omega)).mono ?_
        rintro e w1 ⟨rfl, rfl⟩
        rw [G3.out]
        go_wp2_with fail
        refine (lawFits_spec 1 _ _ (by omega) (by omega) (by omega) (by omega)).mono ?_
        rintro e w1 ⟨rfl, rfl⟩
        rw [G1.out]
        go_wp2_with fail
        refine (works_spec _).mono ?_
        rintro e w1 ⟨rfl, hb⟩
        have HB := Lib.hid hb; clear hb
        go_wp2_with fail
        go_ret
        exact ⟨rfl, HB.out⟩
  · have F0 := FA.out.1.1.trans (show plainB 35 = true from (by decide))
    have F4 := FA.out.1.2.trans (show plainB 35 = true from (by decide))
    have F2 := FA.out.2.1.trans (show dataB 35 = false from (by decide))
    have F3 := FA.out.2.2.1.trans (show dataB 35 = false from (by decide))
    have F1 := FA.out.2.2.2.trans (show ((35 : Int) == 39) = false from (by decide))
    have G0 := Lib.hid F0; clear F0
    have G1 := Lib.hid F1; clear F1
    have G2 := Lib.hid F2; clear F2
    have G3 := Lib.hid F3; clear F3
    have G4 := Lib.hid F4; clear F4
    go_enter Try.func3, Try.ntmps3
    go_wp2_with fail
    go_loop [5] (fun i => ∃ k : Int, 5 ≤ k ∧ k ≤ 256 ∧ i = .int .i64 k) (fun i => (256 - intOf i).toNat)
    case atStart => exact ⟨5, by omega, by omega, rfl⟩
    case round =>
      obtain ⟨k, hk1, hk2, rfl⟩ := hrel
      by_cases hlt : k < 256
      · go_wp2_with fail
        refine (lawFits_spec k _ _ (by omega) (by omega) (by omega) (by omega)).mono ?_
        rintro e w1 ⟨rfl, rfl⟩
        rw [fits_hi (by omega)]
        go_wp2_with fail
        go_round
        case rel => exact ⟨k + 1, by omega, by omega, rfl⟩
        case measure => simp [intOf]; omega
      · obtain rfl : k = 256 := by omega
        go_wp2_with fail
        refine (lawFits_spec 0 _ _ (by omega) (by omega) (by omega) (by omega)).mono ?_
        rintro e w1 ⟨rfl, rfl⟩
        rw [G0.out]
        go_wp2_with fail
        refine (lawFits_spec 4 _ _ (by omega) (by omega) (by omega) (by omega)).mono ?_
        rintro e w1 ⟨rfl, rfl⟩
        rw [G4.out]
        go_wp2_with fail
        refine (lawFits_spec 2 _ _ (by omega) (by omega) (by omega) (by omega)).mono ?_
        rintro e w1 ⟨rfl, rfl⟩
        rw [G2.out]
        go_wp2_with fail
        refine (lawFits_spec 3 _ _ (by omega) (by omega) (by omega) (by omega)).mono ?_
        rintro e w1 ⟨rfl, rfl⟩
        rw [G3.out]
        go_wp2_with fail
        refine (lawFits_spec 1 _ _ (by omega) (by omega) (by omega) (by omega)).mono ?_
        rintro e w1 ⟨rfl, rfl⟩
        rw [G1.out]
        go_wp2_with fail
        refine (works_spec _).mono ?_
        rintro e w1 ⟨rfl, hb⟩
        have HB := Lib.hid hb; clear hb
        go_wp2_with fail
        go_ret
        exact ⟨rfl, HB.out⟩
  · have F0 := FA.out.1.1.trans (show plainB 39 = true from (by decide))
    have F4 := FA.out.1.2.trans (show plainB 39 = true from (by decide))
    have F2 := FA.out.2.1.trans (show dataB 39 = true from (by decide))
    have F3 := FA.out.2.2.1.trans (show dataB 39 = true from (by decide))
    have F1 := FA.out.2.2.2.trans (show ((39 : Int) == 39) = true from (by decide))
    have G0 := Lib.hid F0; clear F0
    have G1 := Lib.hid F1; clear F1
    have G2 := Lib.hid F2; clear F2
    have G3 := Lib.hid F3; clear F3
    have G4 := Lib.hid F4; clear F4
    go_enter Try.func3, Try.ntmps3
    go_wp2_with fail
    go_loop [5] (fun i => ∃ k : Int, 5 ≤ k ∧ k ≤ 256 ∧ i = .int .i64 k) (fun i => (256 - intOf i).toNat)
    case atStart => exact ⟨5, by omega, by omega, rfl⟩
    case round =>
      obtain ⟨k, hk1, hk2, rfl⟩ := hrel
      by_cases hlt : k < 256
      · go_wp2_with fail
        refine (lawFits_spec k _ _ (by omega) (by omega) (by omega) (by omega)).mono ?_
        rintro e w1 ⟨rfl, rfl⟩
        rw [fits_hi (by omega)]
        go_wp2_with fail
        go_round
        case rel => exact ⟨k + 1, by omega, by omega, rfl⟩
        case measure => simp [intOf]; omega
      · obtain rfl : k = 256 := by omega
        go_wp2_with fail
        refine (lawFits_spec 0 _ _ (by omega) (by omega) (by omega) (by omega)).mono ?_
        rintro e w1 ⟨rfl, rfl⟩
        rw [G0.out]
        go_wp2_with fail
        refine (lawFits_spec 4 _ _ (by omega) (by omega) (by omega) (by omega)).mono ?_
        rintro e w1 ⟨rfl, rfl⟩
        rw [G4.out]
        go_wp2_with fail
        refine (lawFits_spec 2 _ _ (by omega) (by omega) (by omega) (by omega)).mono ?_
        rintro e w1 ⟨rfl, rfl⟩
        rw [G2.out]
        go_wp2_with fail
        refine (lawFits_spec 3 _ _ (by omega) (by omega) (by omega) (by omega)).mono ?_
        rintro e w1 ⟨rfl, rfl⟩
        rw [G3.out]
        go_wp2_with fail
        refine (lawFits_spec 1 _ _ (by omega) (by omega) (by omega) (by omega)).mono ?_
        rintro e w1 ⟨rfl, rfl⟩
        rw [G1.out]
        go_wp2_with fail
        refine (works_spec _).mono ?_
        rintro e w1 ⟨rfl, hb⟩
        have HB := Lib.hid hb; clear hb
        go_wp2_with fail
        go_ret
        exact ⟨rfl, HB.out⟩
  · have F0 := FA.out.1.1.trans (show plainB 67 = true from (by decide))
    have F4 := FA.out.1.2.trans (show plainB 67 = true from (by decide))
    have F2 := FA.out.2.1.trans (show dataB 67 = false from (by decide))
    have F3 := FA.out.2.2.1.trans (show dataB 67 = false from (by decide))
    have F1 := FA.out.2.2.2.trans (show ((67 : Int) == 39) = false from (by decide))
    have G0 := Lib.hid F0; clear F0
    have G1 := Lib.hid F1; clear F1
    have G2 := Lib.hid F2; clear F2
    have G3 := Lib.hid F3; clear F3
    have G4 := Lib.hid F4; clear F4
    go_enter Try.func3, Try.ntmps3
    go_wp2_with fail
    go_loop [5] (fun i => ∃ k : Int, 5 ≤ k ∧ k ≤ 256 ∧ i = .int .i64 k) (fun i => (256 - intOf i).toNat)
    case atStart => exact ⟨5, by omega, by omega, rfl⟩
    case round =>
      obtain ⟨k, hk1, hk2, rfl⟩ := hrel
      by_cases hlt : k < 256
      · go_wp2_with fail
        refine (lawFits_spec k _ _ (by omega) (by omega) (by omega) (by omega)).mono ?_
        rintro e w1 ⟨rfl, rfl⟩
        rw [fits_hi (by omega)]
        go_wp2_with fail
        go_round
        case rel => exact ⟨k + 1, by omega, by omega, rfl⟩
        case measure => simp [intOf]; omega
      · obtain rfl : k = 256 := by omega
        go_wp2_with fail
        refine (lawFits_spec 0 _ _ (by omega) (by omega) (by omega) (by omega)).mono ?_
        rintro e w1 ⟨rfl, rfl⟩
        rw [G0.out]
        go_wp2_with fail
        refine (lawFits_spec 4 _ _ (by omega) (by omega) (by omega) (by omega)).mono ?_
        rintro e w1 ⟨rfl, rfl⟩
        rw [G4.out]
        go_wp2_with fail
        refine (lawFits_spec 2 _ _ (by omega) (by omega) (by omega) (by omega)).mono ?_
        rintro e w1 ⟨rfl, rfl⟩
        rw [G2.out]
        go_wp2_with fail
        refine (lawFits_spec 3 _ _ (by omega) (by omega) (by omega) (by omega)).mono ?_
        rintro e w1 ⟨rfl, rfl⟩
        rw [G3.out]
        go_wp2_with fail
        refine (lawFits_spec 1 _ _ (by omega) (by omega) (by omega) (by omega)).mono ?_
        rintro e w1 ⟨rfl, rfl⟩
        rw [G1.out]
        go_wp2_with fail
        refine (works_spec _).mono ?_
        rintro e w1 ⟨rfl, hb⟩
        have HB := Lib.hid hb; clear hb
        go_wp2_with fail
        go_ret
        exact ⟨rfl, HB.out⟩
  · have F0 := FA.out.1.1.trans (show plainB 71 = true from (by decide))
    have F4 := FA.out.1.2.trans (show plainB 71 = true from (by decide))
    have F2 := FA.out.2.1.trans (show dataB 71 = false from (by decide))
    have F3 := FA.out.2.2.1.trans (show dataB 71 = false from (by decide))
    have F1 := FA.out.2.2.2.trans (show ((71 : Int) == 39) = false from (by decide))
    have G0 := Lib.hid F0; clear F0
    have G1 := Lib.hid F1; clear F1
    have G2 := Lib.hid F2; clear F2
    have G3 := Lib.hid F3; clear F3
    have G4 := Lib.hid F4; clear F4
    go_enter Try.func3, Try.ntmps3
    go_wp2_with fail
    go_loop [5] (fun i => ∃ k : Int, 5 ≤ k ∧ k ≤ 256 ∧ i = .int .i64 k) (fun i => (256 - intOf i).toNat)
    case atStart => exact ⟨5, by omega, by omega, rfl⟩
    case round =>
      obtain ⟨k, hk1, hk2, rfl⟩ := hrel
      by_cases hlt : k < 256
      · go_wp2_with fail
        refine (lawFits_spec k _ _ (by omega) (by omega) (by omega) (by omega)).mono ?_
        rintro e w1 ⟨rfl, rfl⟩
        rw [fits_hi (by omega)]
        go_wp2_with fail
        go_round
        case rel => exact ⟨k + 1, by omega, by omega, rfl⟩
        case measure => simp [intOf]; omega
      · obtain rfl : k = 256 := by omega
        go_wp2_with fail
        refine (lawFits_spec 0 _ _ (by omega) (by omega) (by omega) (by omega)).mono ?_
        rintro e w1 ⟨rfl, rfl⟩
        rw [G0.out]
        go_wp2_with fail
        refine (lawFits_spec 4 _ _ (by omega) (by omega) (by omega) (by omega)).mono ?_
        rintro e w1 ⟨rfl, rfl⟩
        rw [G4.out]
        go_wp2_with fail
        refine (lawFits_spec 2 _ _ (by omega) (by omega) (by omega) (by omega)).mono ?_
        rintro e w1 ⟨rfl, rfl⟩
        rw [G2.out]
        go_wp2_with fail
        refine (lawFits_spec 3 _ _ (by omega) (by omega) (by omega) (by omega)).mono ?_
        rintro e w1 ⟨rfl, rfl⟩
        rw [G3.out]
        go_wp2_with fail
        refine (lawFits_spec 1 _ _ (by omega) (by omega) (by omega) (by omega)).mono ?_
        rintro e w1 ⟨rfl, rfl⟩
        rw [G1.out]
        go_wp2_with fail
        refine (works_spec _).mono ?_
        rintro e w1 ⟨rfl, hb⟩
        have HB := Lib.hid hb; clear hb
        go_wp2_with fail
        go_ret
        exact ⟨rfl, HB.out⟩
  · have F0 := FA.out.1.1.trans (show plainB 99 = true from (by decide))
    have F4 := FA.out.1.2.trans (show plainB 99 = true from (by decide))
    have F2 := FA.out.2.1.trans (show dataB 99 = false from (by decide))
    have F3 := FA.out.2.2.1.trans (show dataB 99 = false from (by decide))
    have F1 := FA.out.2.2.2.trans (show ((99 : Int) == 39) = false from (by decide))
    have G0 := Lib.hid F0; clear F0
    have G1 := Lib.hid F1; clear F1
    have G2 := Lib.hid F2; clear F2
    have G3 := Lib.hid F3; clear F3
    have G4 := Lib.hid F4; clear F4
    go_enter Try.func3, Try.ntmps3
    go_wp2_with fail
    go_loop [5] (fun i => ∃ k : Int, 5 ≤ k ∧ k ≤ 256 ∧ i = .int .i64 k) (fun i => (256 - intOf i).toNat)
    case atStart => exact ⟨5, by omega, by omega, rfl⟩
    case round =>
      obtain ⟨k, hk1, hk2, rfl⟩ := hrel
      by_cases hlt : k < 256
      · go_wp2_with fail
        refine (lawFits_spec k _ _ (by omega) (by omega) (by omega) (by omega)).mono ?_
        rintro e w1 ⟨rfl, rfl⟩
        rw [fits_hi (by omega)]
        go_wp2_with fail
        go_round
        case rel => exact ⟨k + 1, by omega, by omega, rfl⟩
        case measure => simp [intOf]; omega
      · obtain rfl : k = 256 := by omega
        go_wp2_with fail
        refine (lawFits_spec 0 _ _ (by omega) (by omega) (by omega) (by omega)).mono ?_
        rintro e w1 ⟨rfl, rfl⟩
        rw [G0.out]
        go_wp2_with fail
        refine (lawFits_spec 4 _ _ (by omega) (by omega) (by omega) (by omega)).mono ?_
        rintro e w1 ⟨rfl, rfl⟩
        rw [G4.out]
        go_wp2_with fail
        refine (lawFits_spec 2 _ _ (by omega) (by omega) (by omega) (by omega)).mono ?_
        rintro e w1 ⟨rfl, rfl⟩
        rw [G2.out]
        go_wp2_with fail
        refine (lawFits_spec 3 _ _ (by omega) (by omega) (by omega) (by omega)).mono ?_
        rintro e w1 ⟨rfl, rfl⟩
        rw [G3.out]
        go_wp2_with fail
        refine (lawFits_spec 1 _ _ (by omega) (by omega) (by omega) (by omega)).mono ?_
        rintro e w1 ⟨rfl, rfl⟩
        rw [G1.out]
        go_wp2_with fail
        refine (works_spec _).mono ?_
        rintro e w1 ⟨rfl, hb⟩
        have HB := Lib.hid hb; clear hb
        go_wp2_with fail
        go_ret
        exact ⟨rfl, HB.out⟩
  · have F0 := FA.out.1.1.trans (show plainB 103 = true from (by decide))
    have F4 := FA.out.1.2.trans (show plainB 103 = true from (by decide))
    have F2 := FA.out.2.1.trans (show dataB 103 = true from (by decide))
    have F3 := FA.out.2.2.1.trans (show dataB 103 = true from (by decide))
    have F1 := FA.out.2.2.2.trans (show ((103 : Int) == 39) = false from (by decide))
    have G0 := Lib.hid F0; clear F0
    have G1 := Lib.hid F1; clear F1
    have G2 := Lib.hid F2; clear F2
    have G3 := Lib.hid F3; clear F3
    have G4 := Lib.hid F4; clear F4
    go_enter Try.func3, Try.ntmps3
    go_wp2_with fail
    go_loop [5] (fun i => ∃ k : Int, 5 ≤ k ∧ k ≤ 256 ∧ i = .int .i64 k) (fun i => (256 - intOf i).toNat)
    case atStart => exact ⟨5, by omega, by omega, rfl⟩
    case round =>
      obtain ⟨k, hk1, hk2, rfl⟩ := hrel
      by_cases hlt : k < 256
      · go_wp2_with fail
        refine (lawFits_spec k _ _ (by omega) (by omega) (by omega) (by omega)).mono ?_
        rintro e w1 ⟨rfl, rfl⟩
        rw [fits_hi (by omega)]
        go_wp2_with fail
        go_round
        case rel => exact ⟨k + 1, by omega, by omega, rfl⟩
        case measure => simp [intOf]; omega
      · obtain rfl : k = 256 := by omega
        go_wp2_with fail
        refine (lawFits_spec 0 _ _ (by omega) (by omega) (by omega) (by omega)).mono ?_
        rintro e w1 ⟨rfl, rfl⟩
        rw [G0.out]
        go_wp2_with fail
        refine (lawFits_spec 4 _ _ (by omega) (by omega) (by omega) (by omega)).mono ?_
        rintro e w1 ⟨rfl, rfl⟩
        rw [G4.out]
        go_wp2_with fail
        refine (lawFits_spec 2 _ _ (by omega) (by omega) (by omega) (by omega)).mono ?_
        rintro e w1 ⟨rfl, rfl⟩
        rw [G2.out]
        go_wp2_with fail
        refine (lawFits_spec 3 _ _ (by omega) (by omega) (by omega) (by omega)).mono ?_
        rintro e w1 ⟨rfl, rfl⟩
        rw [G3.out]
        go_wp2_with fail
        refine (lawFits_spec 1 _ _ (by omega) (by omega) (by omega) (by omega)).mono ?_
        rintro e w1 ⟨rfl, rfl⟩
        rw [G1.out]
        go_wp2_with fail
        refine (works_spec _).mono ?_
        rintro e w1 ⟨rfl, hb⟩
        have HB := Lib.hid hb; clear hb
        go_wp2_with fail
        go_ret
        exact ⟨rfl, HB.out⟩
  · have F0 := FA.out.1.1.trans (show plainB a = false from (by simp only [plainB, e1, e2, e3, e4, e5, e6, e7, e8, Bool.or_self]))
    have F4 := FA.out.1.2.trans (show plainB a = false from (by simp only [plainB, e1, e2, e3, e4, e5, e6, e7, e8, Bool.or_self]))
    have F2 := FA.out.2.1.trans (show dataB a = false from (by simp only [dataB, e4, e8, Bool.or_self]))
    have F3 := FA.out.2.2.1.trans (show dataB a = false from (by simp only [dataB, e4, e8, Bool.or_self]))
    have F1 := FA.out.2.2.2.trans (show ((a : Int) == 39) = false from e4)
    have G0 := Lib.hid F0; clear F0
    have G1 := Lib.hid F1; clear F1
    have G2 := Lib.hid F2; clear F2
    have G3 := Lib.hid F3; clear F3
    have G4 := Lib.hid F4; clear F4
    go_enter Try.func3, Try.ntmps3
    go_wp2_with fail
    go_loop [5] (fun i => ∃ k : Int, 5 ≤ k ∧ k ≤ 256 ∧ i = .int .i64 k) (fun i => (256 - intOf i).toNat)
    case atStart => exact ⟨5, by omega, by omega, rfl⟩
    case round =>
      obtain ⟨k, hk1, hk2, rfl⟩ := hrel
      by_cases hlt : k < 256
      · go_wp2_with fail
        refine (lawFits_spec k _ _ (by omega) (by omega) (by omega) (by omega)).mono ?_
        rintro e w1 ⟨rfl, rfl⟩
        rw [fits_hi (by omega)]
        go_wp2_with fail
        go_round
        case rel => exact ⟨k + 1, by omega, by omega, rfl⟩
        case measure => simp [intOf]; omega
      · obtain rfl : k = 256 := by omega
        go_wp2_with fail
        refine (lawFits_spec 0 _ _ (by omega) (by omega) (by omega) (by omega)).mono ?_
        rintro e w1 ⟨rfl, rfl⟩
        rw [G0.out]
        go_wp2_with fail
        refine (lawFits_spec 4 _ _ (by omega) (by omega) (by omega) (by omega)).mono ?_
        rintro e w1 ⟨rfl, rfl⟩
        rw [G4.out]
        go_wp2_with fail
        refine (lawFits_spec 2 _ _ (by omega) (by omega) (by omega) (by omega)).mono ?_
        rintro e w1 ⟨rfl, rfl⟩
        rw [G2.out]
        go_wp2_with fail
        refine (lawFits_spec 3 _ _ (by omega) (by omega) (by omega) (by omega)).mono ?_
        rintro e w1 ⟨rfl, rfl⟩
        rw [G3.out]
        go_wp2_with fail
        refine (lawFits_spec 1 _ _ (by omega) (by omega) (by omega) (by omega)).mono ?_
        rintro e w1 ⟨rfl, rfl⟩
        rw [G1.out]
        go_wp2_with fail
        refine (works_spec _).mono ?_
        rintro e w1 ⟨rfl, hb⟩
        have HB := Lib.hid hb; clear hb
        go_wp2_with fail
        go_ret
        exact ⟨rfl, HB.out⟩
end Go.Proofs.Ytccelefolepmeaa
