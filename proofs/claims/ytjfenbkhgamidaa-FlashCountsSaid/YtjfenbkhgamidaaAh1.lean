/- The arguments of the flash's laws; the law FlashNil. Conditions: none. -/
import Derived.Test.YtjfenbkhgamidaaAw
import Derived.Test.YtjfenbkhgamidaaAd
import Derived.Test.YtjfenbkhgamidaaAg5
namespace Go.Proofs.Ytjfenbkhgamidaa
open Go.RowKit Go.ChangeShapes Go.WideShapes Go.ChangeAt
set_option linter.unusedVariables false
set_option linter.unusedSimpArgs false
structure OpR where
  kind : Int
  at' : Int
  n : Int
  b : List UInt8
def OpOk (o : OpR) : Prop := I64 o.kind ∧ I64 o.at' ∧ I64 o.n ∧ o.b.length ≤ maxLen
def opA (o : OpR) : List AV := [.val (.int .i64 o.kind), .val (.int .i64 o.at'), .val (.int .i64 o.n), .bs 0 o.b]
section
variable {W : World} {H : Type} {enc : TypeId × Value → H}
theorem oc_op : OC Try.prog W H enc 26 OpOk opA := by
  intro fuel cs x h
  obtain ⟨xs, n, _, _, hl, hxl, hget⟩ := DataW.trod_struct Try.underlying26 h
  have hl4 : cs.length = 4 := hl.trans (by kernel_rfl)
  have hxl4 : xs.length = 4 := hxl
  have c3 : Try.prog.cellsOf 3 = 1 := by kernel_rfl
  have c23 : Try.prog.cellsOf 23 = 1 := by kernel_rfl
  obtain ⟨u0, u1, u2, u3, rfl⟩ : ∃ u0 u1 u2 u3, cs = [u0, u1, u2, u3] := by
    match cs, hl4 with
    | [a, b, c, d], _ => exact ⟨a, b, c, d, rfl⟩
  obtain ⟨x0, x1, x2, x3, rfl⟩ : ∃ u0 u1 u2 u3, xs = [u0, u1, u2, u3] := by
    match xs, hxl4 with
    | [a, b, c, d], _ => exact ⟨a, b, c, d, rfl⟩
  have g0 := hget 0 _ rfl
  have g1 := hget 1 _ rfl
  have g2 := hget 2 _ rfl
  have g3 := hget 3 _ rfl
  simp only [c3, c23, List.drop_zero, List.drop_succ_cons, List.take_succ_cons, List.take_zero, List.getElem?_cons_zero, List.getElem?_cons_succ] at g0 g1 g2 g3
  obtain ⟨k0, w0, r0⟩ := oc_int Try.underlying3 n _ _ g0
  obtain ⟨k1, w1, r1⟩ := oc_int Try.underlying3 n _ _ g1
  obtain ⟨k2, w2, r2⟩ := oc_int Try.underlying3 n _ _ g2
  obtain ⟨k3, w3, r3⟩ := oc_bytes Try.underlying23 Try.underlying5 (by kernel_rfl) n _ _ g3
  refine ⟨⟨k0, k1, k2, k3⟩, ⟨bounds_i64 w0, bounds_i64 w1, bounds_i64 w2, w3⟩, ?_⟩
  simp only [opA]
  exact reps_append r0 (reps_append r1 (reps_append r2 r3))
theorem open_op {r : Reach} {b0 : Nat} {v : Value} {d : DataW H} {p : List MemPlace} (hv : Value.okWide Try.prog W r b0 26 v) (h : DataW.Trod enc Try.prog W 0 (fun _ => true) true 26 v d p) : ∃ o, OpOk o ∧ rep (env0 W) W (.agg (opA o)) v := by
  obtain ⟨cs, rfl, _⟩ := okWide_struct Try.underlying26 hv
  obtain ⟨fuel, hf⟩ := h
  obtain ⟨o, h1, h2⟩ := oc_op _ _ _ hf
  refine ⟨o, h1, ?_⟩
  rw [rep]
  exact ⟨cs.toList, by simp, h2⟩
theorem open_ops {r : Reach} {b0 : Nat} {v : Value} {d : DataW H} {p : List MemPlace} (hv : Value.okWide Try.prog W r b0 22 v) (h : DataW.Trod enc Try.prog W 0 (fun _ => true) true 22 v d p) : ∃ l : List OpR, (l.length ≤ maxLen ∧ ∀ o ∈ l, OpOk o) ∧ rep (env0 W) W (.sl 0 4 opA ⟨0, 0, 0, []⟩ l) v := by
  obtain ⟨a, n, c, rfl⟩ := okWide_slice Try.underlying22 hv
  obtain ⟨fuel, hf⟩ := h
  obtain ⟨l, h1, h2⟩ := oc_slice Try.underlying22 (sz := 4) (by kernel_rfl) (by decide) ⟨0, 0, 0, []⟩ oc_op _ _ _ hf
  refine ⟨l, h1, ?_⟩
  simp only [reps] at h2
  obtain ⟨u, us, h3, h4, h5⟩ := h2
  subst h5
  simp only [Value.cells, List.cons.injEq, and_true] at h3
  rw [h3]; exact h4
end
theorem walk_FlashNil (W : World) (v : Value) (o : OpR) (h : OpOk o ∧ rep (env0 W) W (.agg (opA o)) v) : Calls Try.prog 4 #[v] W fun e W' => e = .returned (.bool true) ∧ Below W.heap.size W W' :=
  join_val (nil_vc o.kind o.at' o.n o.b h.1.1 h.1.2.1 h.1.2.2.1 0) (cargs := [v]) (by simp only [reps]; exact ⟨_, _, rfl, h.2, rfl⟩)
end Go.Proofs.Ytjfenbkhgamidaa
