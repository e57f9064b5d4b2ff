/- The laws FlashErases and FlashCounts, from the arguments. Conditions: none. -/
import Derived.Test.YtjfenbkhgamidaaAd
import Derived.Test.YtjfenbkhgamidaaAh4
import Derived.Test.YtjfenbkhgamidaaAh1
namespace Go.Proofs.Ytjfenbkhgamidaa
open Go.RowKit Go.ChangeShapes Go.WideShapes Go.ChangeAt
set_option linter.unusedVariables false
set_option linter.unusedSimpArgs false
theorem bounds_u16 {n : Int} (h : (Lit.int .u16 n).wf = true) : 0 ≤ n ∧ n ≤ 65535 := by
  simpa [Lit.wf, IntKind.min, IntKind.max, IntKind.signed, IntKind.bits] using h
theorem walk_FlashErases (W : World) (x : Int) (hx : (Lit.int .i64 x).wf = true) (y : Int) (hy : (Lit.int .i64 y).wf = true) (v : Value) (l : List OpR) (h : (l.length ≤ maxLen ∧ ∀ o ∈ l, OpOk o) ∧ rep (env0 W) W (.sl 0 4 opA ⟨0, 0, 0, []⟩ l) v)
    (s : Int) (hs : (Lit.int .i64 s).wf = true) (p : Int) (hp : (Lit.int .u16 p).wf = true) (d : Bool) : Calls Try.prog 5 #[.int .i64 x, .int .i64 y, v, .int .i64 s, .int .u16 p, .bool d] W fun e W' => e = .returned (.bool true) ∧ Below W.heap.size W W' := by
  have hb := bounds_u16 hp
  obtain ⟨p, rfl⟩ := Int.eq_ofNat_of_zero_le hb.1
  refine join_val (erases_vc x y (bounds_i64 hx) (bounds_i64 hy) l h.1.2 s (bounds_i64 hs) p (by omega) d) (cargs := [.int .i64 x, .int .i64 y, v, .int .i64 s, .int .u16 p, .bool d]) ?_
  simp only [reps]
  exact ⟨_, _, rfl, by simp only [rep], _, _, rfl, by simp only [rep], _, _, rfl, h.2, _, _, rfl, by simp only [rep], _, _, rfl, by simp only [rep], _, _, rfl, by simp only [rep], rfl⟩
end Go.Proofs.Ytjfenbkhgamidaa
