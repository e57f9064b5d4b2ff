/- The law FlashCounts, from the arguments. Conditions: none. -/
import Derived.Test.YtjfenbkhgamidaaAd
import Derived.Test.YtjfenbkhgamidaaAh6
import Derived.Test.YtjfenbkhgamidaaAh1
namespace Go.Proofs.Ytjfenbkhgamidaa
open Go.RowKit Go.ChangeShapes Go.WideShapes Go.ChangeAt
set_option linter.unusedVariables false
set_option linter.unusedSimpArgs false
theorem bounds_u8 {n : Int} (h : (Lit.int .u8 n).wf = true) : 0 ≤ n ∧ n ≤ 255 := by
  simpa [Lit.wf, IntKind.min, IntKind.max, IntKind.signed, IntKind.bits] using h
section
variable {W : World} {H : Type} {enc : TypeId × Value → H}
theorem open_opsS {r : Reach} {b0 : Nat} {v : Value} {d : DataW H} {p : List MemPlace} (hv : Value.okWide Try.prog W r b0 22 v) (h : DataW.Trod enc Try.prog W 0 (fun _ => true) true 22 v d p) (hR : ∀ elems spare, d = .slice elems spare → (elems.length + spare.length) * Try.prog.bytesOf 26 ≤ reachBytes) : ∃ l : List OpR, (l.length * 48 ≤ reachBytes ∧ ∀ o ∈ l, OpOk o) ∧ rep (env0 W) W (.sl 0 4 opA ⟨0, 0, 0, []⟩ l) v := by
  obtain ⟨a, n, c, rfl⟩ := okWide_slice Try.underlying22 hv
  obtain ⟨fuel, hf⟩ := h
  have e : Try.prog.bytesOf 26 = 48 := by kernel_rfl
  rw [e] at hR
  obtain ⟨l, h1, h2⟩ := ocs_slice Try.underlying22 (sz := 4) (by kernel_rfl) (by decide) ⟨0, 0, 0, []⟩ oc_op hf hR
  refine ⟨l, h1, ?_⟩
  simp only [reps] at h2
  obtain ⟨u, us, h3, h4, h5⟩ := h2
  subst h5
  simp only [Value.cells, List.cons.injEq, and_true] at h3
  rw [h3]; exact h4
theorem open_bytesA {r : Reach} {b0 : Nat} {v : Value} {d : DataW H} {p : List MemPlace} (hv : Value.okWide Try.prog W r b0 23 v) (h : DataW.Trod enc Try.prog W 0 (fun _ => true) true 23 v d p) : ∃ l : List UInt8, l.length ≤ maxLen ∧ rep (env0 W) W (.bs 0 l) v := by
  obtain ⟨a, n, c, rfl⟩ := okWide_slice Try.underlying23 hv
  obtain ⟨fuel, hf⟩ := h
  obtain ⟨l, h1, h2⟩ := oc_bytes Try.underlying23 Try.underlying5 (by kernel_rfl) _ _ _ hf
  refine ⟨l, h1, ?_⟩
  simp only [reps] at h2
  obtain ⟨u, us, h3, h4, h5⟩ := h2
  subst h5
  simp only [Value.cells, List.cons.injEq, and_true] at h3
  rw [h3]; exact h4
end
theorem walk_FlashCounts (W : World) (x : Int) (hx : (Lit.int .i64 x).wf = true) (y : Int) (hy : (Lit.int .i64 y).wf = true) (v : Value) (l : List OpR) (h : (l.length * 48 ≤ reachBytes ∧ ∀ o ∈ l, OpOk o) ∧ rep (env0 W) W (.sl 0 4 opA ⟨0, 0, 0, []⟩ l) v)
    (u : Value) (b : List UInt8) (h2 : b.length ≤ maxLen ∧ rep (env0 W) W (.bs 0 b) u) (n : Int) (hn : (Lit.int .u8 n).wf = true) : Calls Try.prog 3 #[.int .i64 x, .int .i64 y, v, u, .int .u8 n] W fun e W' => e = .returned (.bool true) ∧ Below W.heap.size W W' := by
  have hb := bounds_u8 hn
  obtain ⟨n, rfl⟩ := Int.eq_ofNat_of_zero_le hb.1
  obtain ⟨c, rfl⟩ : ∃ c : UInt8, n = c.toNat := ⟨UInt8.ofNat n, by rw [UInt8.toNat_ofNat']; omega⟩
  refine join_val (counts_vc x y (bounds_i64 hx) (bounds_i64 hy) l h.1.2 (by have := h.1.1; simp only [reachBytes] at this; omega) b h2.1 c) (cargs := [.int .i64 x, .int .i64 y, v, u, .int .u8 c.toNat]) ?_
  simp only [reps]
  exact ⟨_, _, rfl, by simp only [rep], _, _, rfl, by simp only [rep], _, _, rfl, h.2, _, _, rfl, h2.2, _, _, rfl, by simp only [rep], rfl⟩
end Go.Proofs.Ytjfenbkhgamidaa
