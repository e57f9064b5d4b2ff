/- Equality of arrays of bytes (guids), and of structs of a string and such an array, as map keys. Conditions: the premises of each law. -/
import Derived.Test.YtjfenbkhgamidaaLb
import Derived.DeepKeys4
import Derived.Maps.Keyed
namespace Go.Proofs.Ytjfenbkhgamidaa
open Go.RowKit

theorem mapM_some' {α β : Type} {f : α → Option β} {h : α → β} : ∀ (l : List α), (∀ x ∈ l, f x = some (h x)) → l.mapM f = some (l.map h)
  | [], _ => rfl
  | x :: l, hx => by
    rw [List.mapM_cons, hx x (by simp), mapM_some' l (fun y hy => hx y (by simp [hy]))]
    rfl
def blits (g : List UInt8) : List Lit := g.map fun b => Lit.int .u8 b.toNat
theorem blits_inj {a b : List UInt8} (h : blits a = blits b) : a = b := by
  refine List.map_inj_right (f := fun b : UInt8 => Lit.int .u8 b.toNat) ?_ |>.1 h
  intro x y hxy
  simp only [Lit.int.injEq, true_and] at hxy
  exact UInt8.toNat_inj.1 (by omega)
section
variable {P : Program}
theorem keyLits_bytes {t E n : Nat} (hu : P.underlying t = some (.array n E)) (hE : P.underlying E = some (.int .u8)) (hct : P.cellsOf t = n) (hcE : P.cellsOf E = 1) {g : List UInt8} (hg : g.length = n) (d : Nat) :
    P.keyLits (d + 2) t (bvs g) = some (blits g) := by
  unfold Program.keyLits
  simp only [hu, hct, bvs_length, hg, if_true, hcE, Nat.mul_one]
  rw [mapM_some' (h := fun i => [Lit.int .u8 ((g.getD i 0).toNat)]) (List.range n) (fun i hi => ?_)]
  · simp only [Option.map_some, Option.some.injEq]
    rw [← List.flatMap_def, ← List.map_eq_flatMap]
    apply List.ext_getElem
    · simp [blits, hg]
    · intro i h1 h2
      have hi : i < g.length := by simpa [hg] using h1
      simp [blits, hi]
  · have hi' : i < g.length := by rw [hg]; exact List.mem_range.1 hi
    have e : ((bvs g).drop i).take 1 = [bv (g.getD i 0)] := by
      rw [bvs_drop, List.drop_eq_getElem_cons hi']
      simp only [bvs, List.map_cons, List.take_succ_cons, List.take_zero, List.getD, List.getElem?_eq_getElem hi', Option.getD_some]
    rw [e]
    unfold Program.keyLits
    simp only [hE, bv]
    have hlt := UInt8.toNat_lt (g.getD i 0)
    have : (Lit.int .u8 ((g.getD i 0).toNat : Int)).wf = true := WalkArith.wf_u8 (by omega)
    rw [if_pos ⟨trivial, this⟩]
def gv (g : List UInt8) : Value := .agg (bvs g).toArray
theorem gv_formed {t : TypeId} {g : List UInt8} (h : (match P.underlying t with | some (.array _ _) | some (.struct _) => true | _ => false) = true) (hc : P.cellsOf t = g.length) : (gv g).formed P t = true := by
  unfold Value.formed gv
  split at h <;> simp_all
theorem run_eq_bytes {t E n : Nat} (hu : P.underlying t = some (.array n E)) (hE : P.underlying E = some (.int .u8)) (hct : P.cellsOf t = n) (hcE : P.cellsOf E = 1) (hk : P.keyTypeAt 2 t = true) {a b : List UInt8} (ha : a.length = n) (hb : b.length = n) (w : World) :
    (Op.equalIn 10000 t (gv a) (gv b)).run P w = .ok (decide (a = b)) w := by
  have h1 := keyLits_bytes hu hE hct hcE ha 0
  have h2 := keyLits_bytes hu hE hct hcE hb 0
  obtain ⟨r, hr, hiff⟩ := run_equalIn_deep 9998 2 t hk w 2 2 (gv a) (gv b) _ _ (gv_formed (by rw [hu]) (by rw [hct, ha])) (gv_formed (by rw [hu]) (by rw [hct, hb])) (by simpa [gv, Value.cells] using h1) (by simpa [gv, Value.cells] using h2)
  rw [hr]
  congr 1
  by_cases hab : a = b
  · subst hab; simpa using hiff
  · have : r ≠ true := fun e => hab (blits_inj (hiff.1 e))
    simp [hab, this]
theorem run_eql_bytes {t E n : Nat} (hu : P.underlying t = some (.array n E)) (hE : P.underlying E = some (.int .u8)) (hct : P.cellsOf t = n) (hcE : P.cellsOf E = 1) (hk : P.keyTypeAt 2 t = true) {a b : List UInt8} (ha : a.length = n) (hb : b.length = n) (w : World) :
    (binOp .eql t (gv a) (gv b)).run P w = .ok (.bool (decide (a = b))) w := by
  have h := run_eq_bytes hu hE hct hcE hk ha hb w
  unfold gv at h ⊢
  rw [run_eql_struct, h]; rfl
theorem run_neq_bytes {t E n : Nat} (hu : P.underlying t = some (.array n E)) (hE : P.underlying E = some (.int .u8)) (hct : P.cellsOf t = n) (hcE : P.cellsOf E = 1) (hk : P.keyTypeAt 2 t = true) {a b : List UInt8} (ha : a.length = n) (hb : b.length = n) (w : World) :
    (binOp .neq t (gv a) (gv b)).run P w = .ok (.bool (!decide (a = b))) w := by
  have h := run_eq_bytes hu hE hct hcE hk ha hb w
  unfold gv at h ⊢
  rw [run_neq_struct, h]; rfl
/-- the key of a struct of a string and an array of bytes -/
def sgv (s : List UInt8) (g : List UInt8) : Value := .agg (Value.string (strOf s) :: bvs g).toArray
theorem sgv_inj {s s' g g' : List UInt8} (h : sgv s g = sgv s' g') : s = s' ∧ g = g' := by
  unfold sgv at h
  simp only [Value.agg.injEq] at h
  have h' := congrArg Array.toList h
  simp only [List.cons.injEq, Value.string.injEq] at h'
  exact ⟨strOf_inj h'.1, bvs_inj h'.2⟩
theorem keyLits_str {t : TypeId} (hu : P.underlying t = some .string) {s : List UInt8} (hs : s.length ≤ maxLen) (d : Nat) : P.keyLits (d + 1) t [.string (strOf s)] = some [.string s] := by
  unfold Program.keyLits
  simp [hu, strOf_size, hs]
theorem keyOf_sgv {k t S E n : Nat} {f1 f2 : Field} (hk : P.underlying k = some (.struct #[f1, f2])) (h1 : f1.type = S) (h2 : f2.type = t) (o1 : f1.offset = 0) (o2 : f2.offset = 1) (n1 : f1.name ≠ "_") (n2 : f2.name ≠ "_") (hS : P.underlying S = some .string) (hcS : P.cellsOf S = 1)
    (hu : P.underlying t = some (.array n E)) (hE : P.underlying E = some (.int .u8)) (hct : P.cellsOf t = n) (hcE : P.cellsOf E = 1) (hck : P.cellsOf k = n + 1) (hkt : P.keyType k = true) (hsz : 2 ≤ P.types.size) {s g : List UInt8} (hs : s.length ≤ maxLen) (hg : g.length = n) :
    ∃ l, keyOf P k (sgv s g) = some l := by
  have hform : (sgv s g).formed P k = true := by
    unfold Value.formed sgv
    simp [hk, hck, hg]
  obtain ⟨D, hD⟩ : ∃ D, P.types.size = D + 2 := ⟨P.types.size - 2, by omega⟩
  have e1 := keyLits_bytes hu hE hct hcE hg D
  have e2 := keyLits_str hS hs (D + 1)
  have : P.keyLits (P.types.size + 1) k (sgv s g).cells.toList = some ([Lit.string s] ++ blits g) := by
    rw [hD]
    unfold Program.keyLits sgv
    simp only [hk, Value.cells, hck]
    have hl : (Value.string (strOf s) :: bvs g).length = n + 1 := by simp [hg]
    have ht : (bvs g).take n = bvs g := List.take_of_length_le (by simp [hg])
    simp [hg, n1, n2, h1, h2, o1, o2, hcS, hct, e2, ht, e1]
  unfold keyOf
  simp only [hk, hkt, hform, Bool.and_true, if_true, this]
  exact ⟨_, rfl⟩

theorem exec_eql_bytes {o : Oper} {ρ : Operand → Value} {x y : Operand} {w : World} {t t' E n : Nat} (ho : o.op = .binOp .eql t x y t') (hm : P.eqGuardType P.depth t = false) (hu : P.underlying t = some (.array n E)) (hE : P.underlying E = some (.int .u8)) (hct : P.cellsOf t = n) (hcE : P.cellsOf E = 1) (hk : P.keyTypeAt 2 t = true)
    {a b : List UInt8} (hx : ρ x = gv a) (hy : ρ y = gv b) (ha : a.length = n) (hb : b.length = n) : (execOp ρ o).run P w = .ok (.value (.bool (decide (a = b)))) w := by
  have h := run_eql_bytes hu hE hct hcE hk ha hb w
  have hg := run_eqGuard_agg (P := P) w .eql t x y (bvs a).toArray (bvs b).toArray hm
  unfold gv at h
  unfold execOp
  simp only [ho, hx, hy, gv, Sem.run_bind, hg, Result.andThen_ok, h, Sem.run_pure]
theorem exec_neq_bytes {o : Oper} {ρ : Operand → Value} {x y : Operand} {w : World} {t t' E n : Nat} (ho : o.op = .binOp .neq t x y t') (hm : P.eqGuardType P.depth t = false) (hu : P.underlying t = some (.array n E)) (hE : P.underlying E = some (.int .u8)) (hct : P.cellsOf t = n) (hcE : P.cellsOf E = 1) (hk : P.keyTypeAt 2 t = true)
    {a b : List UInt8} (hx : ρ x = gv a) (hy : ρ y = gv b) (ha : a.length = n) (hb : b.length = n) : (execOp ρ o).run P w = .ok (.value (.bool (!decide (a = b)))) w := by
  have h := run_neq_bytes hu hE hct hcE hk ha hb w
  have hg := run_eqGuard_agg (P := P) w .neq t x y (bvs a).toArray (bvs b).toArray hm
  unfold gv at h
  unfold execOp
  simp only [ho, hx, hy, gv, Sem.run_bind, hg, Result.andThen_ok, h, Sem.run_pure]
theorem exec_eql_str {o : Oper} {ρ : Operand → Value} {x y : Operand} {w : World} {t t' : Nat} (ho : o.op = .binOp .eql t x y t') {a b : ByteArray} (hx : ρ x = .string a) (hy : ρ y = .string b) : (execOp ρ o).run P w = .ok (.value (.bool (a.toList == b.toList))) w := by
  unfold execOp
  simp [ho, hx, hy, eqGuard, binOp, Op.stringOp]
theorem exec_pick {o : Oper} {ρ : Operand → Value} {c x y : Operand} {w : World} (ho : o.op = .pick c x y) {b : Bool} (hc : ρ c = .bool b) {v : Value} (hv : (if b then ρ x else ρ y) = v) : (execOp ρ o).run P w = .ok (.value v) w := by
  subst hv
  unfold execOp
  cases b <;> simp [ho, hc, asBool]
end
end Go.Proofs.Ytjfenbkhgamidaa
