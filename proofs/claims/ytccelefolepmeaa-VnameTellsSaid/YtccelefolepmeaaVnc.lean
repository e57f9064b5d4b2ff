/- The walk of the statement VnameTells. Conditions: the arguments fit their kinds. -/
import Derived.Test.YtccelefolepmeaaVn8
import Derived.Test.YtccelefolepmeaaOp
namespace Go.Proofs.Ytccelefolepmeaa
open Go.RowKit
set_option linter.unusedVariables false

theorem KeyPost.one {w : World} {s g : List UInt8} {e : Ending} {w' : World} (h : KeyPost w s g e w') : ∃ va, e = .returned (.tuple #[va, .int .i64 (if rightB s then 0 else 1)]) ∧ BS w' va (if rightB s then g ++ s else []) ∧ Below w.heap.size w w' := by
  obtain ⟨hb, ⟨hr, he⟩ | ⟨hr, v, he, ho⟩⟩ := h
  · exact ⟨_, by rw [he, hr]; rfl, by rw [hr]; exact BS.nil _, hb⟩
  · exact ⟨v, by rw [he, hr]; rfl, by rw [hr]; exact ho.sl, hb⟩
def TlSt (w wz : World) (gx key : List UInt8) (v : Value) : Prop :=
  Below w.heap.size w wz ∧ wz.heap[w.heap.size]? = some (.cells (bvs gx).toArray 31) ∧ w.heap.size < wz.heap.size ∧ BS wz v key
theorem TlSt.next {w wz wz' : World} {gx key : List UInt8} {v : Value} (h : TlSt w wz gx key v) (hb : Below wz.heap.size wz wz') : TlSt w wz' gx key v :=
  ⟨h.1.trans (hb.mono h.1.size), (hb.block _ h.2.2.1).trans h.2.1, Nat.lt_of_lt_of_le h.2.2.1 hb.size, h.2.2.2.below hb⟩
section
variable {P : Program}
theorem exec_neq_int_self {o : Oper} {ρ : Operand → Value} {x y : Operand} {w : World} {t t' : Nat} (ho : o.op = .binOp .neq t x y t') {k : IntKind} {a : Int} (hx : ρ x = .int k a) (hy : ρ y = .int k a) : (execOp ρ o).run P w = .ok (.value (.bool false)) w := by
  unfold execOp
  simp [ho, hx, hy, eqGuard, binOp, Op.intCmp]
theorem exec_eql_int_self {o : Oper} {ρ : Operand → Value} {x y : Operand} {w : World} {t t' : Nat} (ho : o.op = .binOp .eql t x y t') {k : IntKind} {a : Int} (hx : ρ x = .int k a) (hy : ρ y = .int k a) : (execOp ρ o).run P w = .ok (.value (.bool true)) w := by
  unfold execOp
  simp [ho, hx, hy, eqGuard, binOp, Op.intCmp]
theorem exec_neq_str_self {o : Oper} {ρ : Operand → Value} {x y : Operand} {w : World} {t t' : Nat} (ho : o.op = .binOp .neq t x y t') {a : ByteArray} (hx : ρ x = .string a) (hy : ρ y = .string a) : (execOp ρ o).run P w = .ok (.value (.bool false)) w := by
  unfold execOp
  simp [ho, hx, hy, eqGuard, binOp, Op.stringOp]
theorem exec_neq_bool_self {o : Oper} {ρ : Operand → Value} {x y : Operand} {w : World} {t t' : Nat} (ho : o.op = .binOp .neq t x y t') (hu : P.underlying t = some .bool) {b : Bool} (hx : ρ x = .bool b) (hy : ρ y = .bool b) : (execOp ρ o).run P w = .ok (.value (.bool false)) w := by
  have h := run_equal_bool (P := P) w t b b hu
  unfold execOp
  simp [ho, hx, hy, eqGuard, binOp, h]
theorem exec_neq_bytes_self {o : Oper} {ρ : Operand → Value} {x y : Operand} {w : World} {t t' E n : Nat} (ho : o.op = .binOp .neq t x y t') (hm : P.eqGuardType P.depth t = false) (hu : P.underlying t = some (.array n E)) (hE : P.underlying E = some (.int .u8)) (hct : P.cellsOf t = n) (hcE : P.cellsOf E = 1) (hk : P.keyTypeAt 2 t = true)
    {a : List UInt8} (hx : ρ x = gv a) (hy : ρ y = gv a) (ha : a.length = n) : (execOp ρ o).run P w = .ok (.value (.bool false)) w := by
  have := exec_neq_bytes ho hm hu hE hct hcE hk hx hy ha ha (w := w)
  simpa using this
end
section
theorem args2 {ρ : Operand → Value} {x y : Operand} {v u : Value} (hx : ρ x = v) (hy : ρ y = u) : (#[x, y] : Array Operand).map ρ = #[v, u] := by simp [hx, hy]
end
end Go.Proofs.Ytccelefolepmeaa
