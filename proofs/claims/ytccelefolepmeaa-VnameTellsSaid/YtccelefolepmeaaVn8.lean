/- The statements of package vname: contract of works and of fits. No condition. -/
import Derived.Test.YtccelefolepmeaaVn7
namespace Go.Proofs.Ytccelefolepmeaa
open Go.RowKit
set_option linter.unusedVariables false

theorem kind_pk : kindF nPK globalG = 1 := by decide
theorem kind_db : kindF nDb securityG = 3 := by decide
theorem fits_a : fitsF 3 39 = 0 := by decide
theorem fits_b : fitsF 0 1 = 1 := by decide
theorem right_pk : rightB nPK = true := by decide
theorem maxLen_ge : 18 ≤ maxLen := by unfold maxLen; omega

set_option maxHeartbeats 1000000 in
theorem works_spec (w : World) : Calls Try.prog 8 #[] w fun e w' => e = .returned (.bool true) ∧ Below w.heap.size w w' := by
  go_enter Try.func8, Try.ntmps8
  go_wp2_with (go_at_call 18; refine (global_spec _).mono ?_; rintro e w1 ⟨rfl, hb1⟩; have HB1 := Lib.hid hb1; clear hb1)
  refine (key_spec ⟨#[80, 75]⟩ globalG _ (by unfold maxLen; decide) rfl).mono ?_
  rintro e w2 ⟨hb2, h | ⟨_, v, he, hown⟩⟩
  · exact absurd right_pk (by rw [show nPK = (ByteArray.mk #[80, 75]).data.toList from rfl, h.1]; simp)
  subst he
  obtain ⟨a, c, rfl⟩ := hown.shape
  have hs := hown.sl
  obtain ⟨a', n', c', e1, hs⟩ := hs
  cases e1
  obtain ⟨b, o, rfl, hcell⟩ := hs.addr (by decide) (by omega)
  have hc := hcell 17 (bv 75) rfl
  have hb12 : Below w.heap.size w w2 := HB1.out.trans (hb2.mono HB1.out.size)
  have HB2 := Lib.hid hb12; clear hb12 hb2 hcell hs hown
  simp only [bv] at hc
  go_wp2_with (go_at_call 18; refine (global_spec _).mono ?_; rintro e w3 ⟨rfl, hb3⟩; have HB3 := Lib.hid hb3; clear hb3)
  refine (kind_spec ⟨#[80, 75]⟩ globalG _ (by unfold maxLen; decide) rfl).mono ?_
  rintro e w4 ⟨rfl, hb4⟩
  rw [show (ByteArray.mk #[80, 75]).data.toList = nPK from rfl, kind_pk]
  have hb24 : Below w.heap.size w w4 := (HB2.out.trans (HB3.out.mono HB2.out.size)).trans (hb4.mono (Nat.le_trans HB2.out.size HB3.out.size))
  have HB4 := Lib.hid hb24; clear hb24 hb4 HB3 HB2
  go_wp2_with (go_at_call 19; refine (security_spec _).mono ?_; rintro e w5 ⟨rfl, hb5⟩; have HB5 := Lib.hid hb5; clear hb5)
  refine (kind_spec ⟨#[100, 98]⟩ securityG _ (by unfold maxLen; decide) rfl).mono ?_
  rintro e w6 ⟨rfl, hb6⟩
  rw [show (ByteArray.mk #[100, 98]).data.toList = nDb from rfl, kind_db]
  have hb46 : Below w.heap.size w w6 := (HB4.out.trans (HB5.out.mono HB4.out.size)).trans (hb6.mono (Nat.le_trans HB4.out.size HB5.out.size))
  have HB6 := Lib.hid hb46; clear hb46 hb6 HB5 HB4
  go_wp2_with fail
  refine (fits_spec 3 39 _ (by omega) (by omega) (by omega) (by omega)).mono ?_
  rintro e w7 ⟨rfl, rfl⟩
  rw [fits_a]
  go_wp2_with fail
  refine (fits_spec 0 1 _ (by omega) (by omega) (by omega) (by omega)).mono ?_
  rintro e w8 ⟨rfl, rfl⟩
  rw [fits_b]
  go_wp2_with fail
  go_ret
  exact ⟨rfl, HB6.out⟩

theorem lawFits_spec (k a : Int) (w : World) (hk : 0 ≤ k) (hk' : k < 256) (ha : 0 ≤ a) (ha' : a < 4294967296) :
    Calls Try.prog 7 #[.int .u8 k, .int .u32 a] w fun e w' => e = .returned (.bool (decide (fitsF k a = 0))) ∧ w = w' := by
  go_enter Try.func7, Try.ntmps7
  go_wp2_with fail
  refine (fits_spec k a w hk hk' ha ha').mono ?_
  rintro e w1 ⟨rfl, rfl⟩
  go_wp2_with fail
  go_ret
  exact ⟨ret_bool (by rw [Bool.eq_iff_iff]; simp), rfl⟩
end Go.Proofs.Ytccelefolepmeaa
