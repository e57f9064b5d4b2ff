/- From arguments to abstract values. Conditions: none. -/
import Derived.Test.YtebilmfljoiaeaaDoorLb
import Derived.DeepKeys4
import Derived.Maps.Keyed
import Derived.ProofKit
import Derived.OpenShut
import Derived.ShutString
import Derived.ChangeOld
import Derived.Test.YtebilmfljoiaeaaDoorAc
import Derived.Deep.Slices
import Derived.Test.YtebilmfljoiaeaaDoorRows
/-! Equality of arrays of bytes (guids), and of structs of a string and such an array, as map keys. Conditions: the premises of each law. -/
namespace Go.Proofs.YtebilmfljoiaeaaDoor
open Go.RowKit

theorem mapM_some' {α β : Type} {f : α → Option β} {h : α → β} : ∀ (l : List α), (∀ x ∈ l, f x = some (h x)) → l.mapM f = some (l.map h)
  | [], _ => rfl
  | x :: l, hx => by
    rw [List.mapM_cons, hx x (by simp), mapM_some' l (fun y hy => hx y (by simp [hy]))]
    rfl
def blits (g : List UInt8) : List Lit := g.map fun b => Lit.int .u8 b.toNat
theorem blits_inj {a b : List UInt8} (h : blits a = blits b) : a = b := by
  refine List.map_inj_right (f := fun b : UInt8 => Lit.int .u8 b.toNat) ?_ |>.1 h
  intro x y hxy
  simp only [Lit.int.injEq, true_and] at hxy
  exact UInt8.toNat_inj.1 (by omega)
section
variable {P : Program}
theorem keyLits_bytes {t E n : Nat} (hu : P.underlying t = some (.array n E)) (hE : P.underlying E = some (.int .u8)) (hct : P.cellsOf t = n) (hcE : P.cellsOf E = 1) {g : List UInt8} (hg : g.length = n) (d : Nat) :
    P.keyLits (d + 2) t (bvs g) = some (blits g) := by
  unfold Program.keyLits
  simp only [hu, hct, bvs_length, hg, if_true, hcE, Nat.mul_one]
  rw [mapM_some' (h := fun i => [Lit.int .u8 ((g.getD i 0).toNat)]) (List.range n) (fun i hi => ?_)]
  · simp only [Option.map_some, Option.some.injEq]
    rw [← List.flatMap_def, ← List.map_eq_flatMap]
    apply List.ext_getElem
    · simp [blits, hg]
    · intro i h1 h2
      have hi : i < g.length := by simpa [hg] using h1
      simp [blits, hi]
  · have hi' : i < g.length := by rw [hg]; exact List.mem_range.1 hi
    have e : ((bvs g).drop i).take 1 = [bv (g.getD i 0)] := by
      rw [bvs_drop, List.drop_eq_getElem_cons hi']
      simp only [bvs, List.map_cons, List.take_succ_cons, List.take_zero, List.getD, List.getElem?_eq_getElem hi', Option.getD_some]
    rw [e]
    unfold Program.keyLits
    simp only [hE, bv]
    have hlt := UInt8.toNat_lt (g.getD i 0)
    have : (Lit.int .u8 ((g.getD i 0).toNat : Int)).wf = true := WalkArith.wf_u8 (by omega)
    rw [if_pos ⟨trivial, this⟩]
def gv (g : List UInt8) : Value := .agg (bvs g).toArray
theorem gv_formed {t : TypeId} {g : List UInt8} (h : (match P.underlying t with | some (.array _ _) | some (.struct _) => true | _ => false) = true) (hc : P.cellsOf t = g.length) : (gv g).formed P t = true := by
  unfold Value.formed gv
  split at h <;> simp_all
theorem run_eq_bytes {t E n : Nat} (hu : P.underlying t = some (.array n E)) (hE : P.underlying E = some (.int .u8)) (hct : P.cellsOf t = n) (hcE : P.cellsOf E = 1) (hk : P.keyTypeAt 2 t = true) {a b : List UInt8} (ha : a.length = n) (hb : b.length = n) (w : World) :
    (Op.equalIn 10000 t (gv a) (gv b)).run P w = .ok (decide (a = b)) w := by
  have h1 := keyLits_bytes hu hE hct hcE ha 0
  have h2 := keyLits_bytes hu hE hct hcE hb 0
  obtain ⟨r, hr, hiff⟩ := run_equalIn_deep 9998 2 t hk w 2 2 (gv a) (gv b) _ _ (gv_formed (by rw [hu]) (by rw [hct, ha])) (gv_formed (by rw [hu]) (by rw [hct, hb])) (by simpa [gv, Value.cells] using h1) (by simpa [gv, Value.cells] using h2)
  rw [hr]
  congr 1
  by_cases hab : a = b
  · subst hab; simpa using hiff
  · have : r ≠ true := fun e => hab (blits_inj (hiff.1 e))
    simp [hab, this]
theorem run_eql_bytes {t E n : Nat} (hu : P.underlying t = some (.array n E)) (hE : P.underlying E = some (.int .u8)) (hct : P.cellsOf t = n) (hcE : P.cellsOf E = 1) (hk : P.keyTypeAt 2 t = true) {a b : List UInt8} (ha : a.length = n) (hb : b.length = n) (w : World) :
    (binOp .eql t (gv a) (gv b)).run P w = .ok (.bool (decide (a = b))) w := by
  have h := run_eq_bytes hu hE hct hcE hk ha hb w
  unfold gv at h ⊢
  rw [run_eql_struct, h]; rfl
theorem run_neq_bytes {t E n : Nat} (hu : P.underlying t = some (.array n E)) (hE : P.underlying E = some (.int .u8)) (hct : P.cellsOf t = n) (hcE : P.cellsOf E = 1) (hk : P.keyTypeAt 2 t = true) {a b : List UInt8} (ha : a.length = n) (hb : b.length = n) (w : World) :
    (binOp .neq t (gv a) (gv b)).run P w = .ok (.bool (!decide (a = b))) w := by
  have h := run_eq_bytes hu hE hct hcE hk ha hb w
  unfold gv at h ⊢
  rw [run_neq_struct, h]; rfl
/-- the key of a struct of a string and an array of bytes -/
def sgv (s : List UInt8) (g : List UInt8) : Value := .agg (Value.string (strOf s) :: bvs g).toArray
theorem sgv_inj {s s' g g' : List UInt8} (h : sgv s g = sgv s' g') : s = s' ∧ g = g' := by
  unfold sgv at h
  simp only [Value.agg.injEq] at h
  have h' := congrArg Array.toList h
  simp only [List.cons.injEq, Value.string.injEq] at h'
  exact ⟨strOf_inj h'.1, bvs_inj h'.2⟩
theorem keyLits_str {t : TypeId} (hu : P.underlying t = some .string) {s : List UInt8} (hs : s.length ≤ maxLen) (d : Nat) : P.keyLits (d + 1) t [.string (strOf s)] = some [.string s] := by
  unfold Program.keyLits
  simp [hu, strOf_size, hs]
theorem keyOf_sgv {k t S E n : Nat} {f1 f2 : Field} (hk : P.underlying k = some (.struct #[f1, f2])) (h1 : f1.type = S) (h2 : f2.type = t) (o1 : f1.offset = 0) (o2 : f2.offset = 1) (n1 : f1.name ≠ "_") (n2 : f2.name ≠ "_") (hS : P.underlying S = some .string) (hcS : P.cellsOf S = 1)
    (hu : P.underlying t = some (.array n E)) (hE : P.underlying E = some (.int .u8)) (hct : P.cellsOf t = n) (hcE : P.cellsOf E = 1) (hck : P.cellsOf k = n + 1) (hkt : P.keyType k = true) (hsz : 2 ≤ P.types.size) {s g : List UInt8} (hs : s.length ≤ maxLen) (hg : g.length = n) :
    ∃ l, keyOf P k (sgv s g) = some l := by
  have hform : (sgv s g).formed P k = true := by
    unfold Value.formed sgv
    simp [hk, hck, hg]
  obtain ⟨D, hD⟩ : ∃ D, P.types.size = D + 2 := ⟨P.types.size - 2, by omega⟩
  have e1 := keyLits_bytes hu hE hct hcE hg D
  have e2 := keyLits_str hS hs (D + 1)
  have : P.keyLits (P.types.size + 1) k (sgv s g).cells.toList = some ([Lit.string s] ++ blits g) := by
    rw [hD]
    unfold Program.keyLits sgv
    simp only [hk, Value.cells, hck]
    have hl : (Value.string (strOf s) :: bvs g).length = n + 1 := by simp [hg]
    have ht : (bvs g).take n = bvs g := List.take_of_length_le (by simp [hg])
    simp [hg, n1, n2, h1, h2, o1, o2, hcS, hct, e2, ht, e1]
  unfold keyOf
  simp only [hk, hkt, hform, Bool.and_true, if_true, this]
  exact ⟨_, rfl⟩

theorem exec_eql_bytes {o : Oper} {ρ : Operand → Value} {x y : Operand} {w : World} {t t' E n : Nat} (ho : o.op = .binOp .eql t x y t') (hm : P.eqGuardType P.depth t = false) (hu : P.underlying t = some (.array n E)) (hE : P.underlying E = some (.int .u8)) (hct : P.cellsOf t = n) (hcE : P.cellsOf E = 1) (hk : P.keyTypeAt 2 t = true)
    {a b : List UInt8} (hx : ρ x = gv a) (hy : ρ y = gv b) (ha : a.length = n) (hb : b.length = n) : (execOp ρ o).run P w = .ok (.value (.bool (decide (a = b)))) w := by
  have h := run_eql_bytes hu hE hct hcE hk ha hb w
  have hg := run_eqGuard_agg (P := P) w .eql t x y (bvs a).toArray (bvs b).toArray hm
  unfold gv at h
  unfold execOp
  simp only [ho, hx, hy, gv, Sem.run_bind, hg, Result.andThen_ok, h, Sem.run_pure]
theorem exec_neq_bytes {o : Oper} {ρ : Operand → Value} {x y : Operand} {w : World} {t t' E n : Nat} (ho : o.op = .binOp .neq t x y t') (hm : P.eqGuardType P.depth t = false) (hu : P.underlying t = some (.array n E)) (hE : P.underlying E = some (.int .u8)) (hct : P.cellsOf t = n) (hcE : P.cellsOf E = 1) (hk : P.keyTypeAt 2 t = true)
    {a b : List UInt8} (hx : ρ x = gv a) (hy : ρ y = gv b) (ha : a.length = n) (hb : b.length = n) : (execOp ρ o).run P w = .ok (.value (.bool (!decide (a = b)))) w := by
  have h := run_neq_bytes hu hE hct hcE hk ha hb w
  have hg := run_eqGuard_agg (P := P) w .neq t x y (bvs a).toArray (bvs b).toArray hm
  unfold gv at h
  unfold execOp
  simp only [ho, hx, hy, gv, Sem.run_bind, hg, Result.andThen_ok, h, Sem.run_pure]
theorem exec_eql_str {o : Oper} {ρ : Operand → Value} {x y : Operand} {w : World} {t t' : Nat} (ho : o.op = .binOp .eql t x y t') {a b : ByteArray} (hx : ρ x = .string a) (hy : ρ y = .string b) : (execOp ρ o).run P w = .ok (.value (.bool (a.toList == b.toList))) w := by
  unfold execOp
  simp [ho, hx, hy, eqGuard, binOp, Op.stringOp]
theorem exec_pick {o : Oper} {ρ : Operand → Value} {c x y : Operand} {w : World} (ho : o.op = .pick c x y) {b : Bool} (hc : ρ c = .bool b) {v : Value} (hv : (if b then ρ x else ρ y) = v) : (execOp ρ o).run P w = .ok (.value v) w := by
  subst hv
  unfold execOp
  cases b <;> simp [ho, hc, asBool]
end
end Go.Proofs.YtebilmfljoiaeaaDoor

/-! Openers for a law's arguments: byte slices, arrays of bytes. Conditions: the premises of each. -/
namespace Go.Proofs.YtebilmfljoiaeaaDoor
open Go.ChangeShapes Go.WideShapes Go.ChangeAt Go.RowKit
open Go.ChangeMaps (open_string shut_string)
theorem bvs_of_all : ∀ (l : List Value), (∀ i, i < l.length → ∃ b : UInt8, l[i]? = some (bv b)) → ∃ g, l = bvs g
  | [], _ => ⟨[], rfl⟩
  | x :: l, h => by
    obtain ⟨b, hb⟩ := h 0 (by simp)
    obtain ⟨g, hg⟩ := bvs_of_all l (fun i hi => by have := h (i + 1) (by simpa using hi); simpa using this)
    refine ⟨b :: g, ?_⟩
    simp only [List.getElem?_cons_zero, Option.some.injEq] at hb
    rw [hb, hg]; rfl
theorem bv_of_wf {n : Int} (h : (Lit.int .u8 n).wf = true) : ∃ b : UInt8, (.int .u8 n : Value) = bv b := by
  have hb := bounds_u8 h
  refine ⟨UInt8.ofNat n.toNat, ?_⟩
  unfold bv
  have : (UInt8.ofNat n.toNat).toNat = n.toNat := by simp; omega
  rw [this]
  congr 1; omega
section
variable {H : Type} {enc : TypeId × Value → H} {P : Program} {w : World} {base : Nat} {spare : Nat → Bool} {held : Bool}
theorem open_guid {t E n : Nat} {r : Reach} {b0 : Nat} {v : Value} {d : DataW H} {p : List MemPlace} (ht : P.underlying t = some (.array n E)) (hE : P.underlying E = some (.int .u8)) (hct : P.cellsOf t = n) (hcE : P.cellsOf E = 1)
    (hv : Value.okWide P w r b0 t v) (h : DataW.Trod enc P w base spare held t v d p) : ∃ g : List UInt8, g.length = n ∧ v = gv g := by
  unfold Value.okWide at hv
  rw [ht] at hv
  obtain ⟨cs, rfl, hsz, _⟩ := hv
  obtain ⟨fuel, hf⟩ := h
  obtain ⟨xs, m, rfl, hx, hl, hxl, hget⟩ := DataW.trod_array ht hf
  have hcl : cs.toList.length = n := by simp [hsz, hct]
  obtain ⟨g, hg⟩ := bvs_of_all cs.toList (fun i hi => by
    have hi' : i < n := by omega
    have h1 := hget i hi'
    rw [hcE, Nat.mul_one] at h1
    have hxi : xs[i]? = some xs[i] := List.getElem?_eq_getElem (by omega)
    rw [hxi] at h1
    have e : (cs.toList.drop i).take 1 = [cs.toList[i]] := by
      rw [List.drop_eq_getElem_cons hi]; rfl
    simp only [Value.cells] at h1
    rw [e] at h1
    obtain ⟨a, e0, _, wa⟩ := DataW.trod_int hE h1
    simp only [List.cons.injEq, and_true] at e0
    obtain ⟨b, hb⟩ := bv_of_wf wa
    exact ⟨b, by rw [List.getElem?_eq_getElem hi, e0, hb]⟩)
  refine ⟨g, by rw [← hcl, hg]; simp, ?_⟩
  unfold gv
  congr 1
  rw [← hg]
theorem open_bytes {t E : Nat} {r : Reach} {b0 : Nat} {v : Value} {d : DataW H} {p : List MemPlace} (ht : P.underlying t = some (.slice E)) (hE : P.underlying E = some (.int .u8)) (hcE : P.cellsOf E = 1)
    (hv : Value.okWide P w r b0 t v) (h : DataW.Trod enc P w base (fun _ => true) held t v d p) : ∃ bs, BS w v bs := by
  obtain ⟨a, n, c, rfl⟩ := okWide_slice ht hv
  obtain ⟨fuel, hf⟩ := h
  rcases open_ints ht hE hcE hf with ⟨hcs, _⟩ | ⟨x, l, c', zs, hcs, _, hl, hm, hz, _, hcell, hwz⟩
  · simp [Value.cells] at hcs
    obtain ⟨rfl, rfl, rfl⟩ := hcs
    exact ⟨[], BS.nil w⟩
  · simp [Value.cells] at hcs
    obtain ⟨rfl, rfl, rfl⟩ := hcs
    have hz' : zs.length = c := by simpa using hz
    obtain ⟨bs, hbs⟩ := bvs_of_all (zs.map (Value.int .u8)) (fun i hi => by
      have hi' : i < zs.length := by simpa using hi
      obtain ⟨b, hb⟩ := bv_of_wf (hwz zs[i] (List.getElem_mem _))
      exact ⟨b, by simp [hi', hb]⟩)
    have hbl : bs.length = c := by
      have := congrArg List.length hbs
      simpa [hz'] using this.symm
    refine ⟨bs.take n, _, _, _, rfl, (by simp [hbl]; omega), hl, hm, (fun e => by cases e), fun ad had i u hu => ?_⟩
    obtain rfl := Option.some.inj had
    rw [← bvs_take, List.getElem?_take] at hu
    split at hu
    · rw [← hbs] at hu
      simp only [List.getElem?_map, Option.map_eq_some_iff] at hu
      obtain ⟨z, hz1, rfl⟩ := hu
      have hi := (List.getElem?_eq_some_iff.1 hz1).1
      rw [hcell i hi]
      simp [List.getD, hz1]
    · cases hu
end
end Go.Proofs.YtebilmfljoiaeaaDoor

/-! From a statement's arguments to abstract values, and from what is known of a function to the statement's answer. Conditions: none. -/
namespace Go.Proofs.YtebilmfljoiaeaaDoor
open Go.RowKit Go.ChangeShapes Go.WideShapes Go.ChangeAt
set_option linter.unusedVariables false
section
variable {P : Program}
theorem join_val {f : FuncId} {args : List AV} {u : Value} (S : Spec P f args [] (pms (.val u) [] [])) {W : World} {cargs : List Value} (h : reps (env0 W) W args cargs) (hgl : Gl (env0 W) W) :
    Calls P f cargs.toArray W fun e W' => e = .returned u ∧ Below W.heap.size W W' := by
  have hr : HR (env0 W) W [] := ⟨by simp, by simp, by simp, by simp, fun z b h => h.2, by simp, fun r _ => ⟨rfl, fun h => h⟩, hgl, by simp⟩
  refine Calls.mono (S W (env0 W) cargs hr h) fun e w' ⟨v, x, H1, E1, he, ⟨tl, hx, _, _⟩, hv, _, _, _, _, _, hfr⟩ => ?_
  subst hx
  rw [rep_val hv] at he
  exact ⟨he, hfr.os, hfr.tape, hfr.output, hfr.size, fun k hk => hfr.block k hk (fun r e h => by simp at h)⟩
theorem bs_env0 {w : World} {v : Value} {l : List UInt8} (h : BS w v l) : rep (env0 w) w (.bs 0 l) v := by
  obtain ⟨a, n, c, rfl, hS⟩ := h
  rw [rep]
  refine ⟨a, n, c, rfl, hS.len1.symm, hS.le, hS.max, hS.nil, fun i x hx => ?_⟩
  have hn : 0 < n := by
    have := (List.getElem?_eq_some_iff.1 hx).1
    have := hS.len1; omega
  obtain ⟨b, o, rfl, hc⟩ := hS.addr hn (by decide)
  have h1 := hc i (bv x) (by rw [bvs, List.getElem?_map, hx]; rfl)
  refine ⟨b, o, rfl, ⟨rfl, ?_⟩, h1⟩
  unfold World.cell? at h1
  simp only at h1
  cases hb : w.heap[b]? with
  | none => simp [hb] at h1
  | some _ => exact (Array.getElem?_eq_some_iff.1 hb).1
/-- what a reading of cells of a type tells of them -/
def OC (P : Program) (W : World) (H : Type) (enc : TypeId × Value → H) (T : TypeId) {α : Type} (ok : α → Prop) (f : α → List AV) : Prop :=
  ∀ (fuel : Nat) (cs : List Value) (x : DataW H × List MemPlace), DataW.trod enc P W 0 (fun _ => true) true fuel T cs = some x → ∃ a : α, ok a ∧ reps (env0 W) W (f a) cs
variable {W : World} {H : Type} {enc : TypeId × Value → H}
theorem oc_int {T : TypeId} {k : IntKind} (hT : P.underlying T = some (.int k)) : OC P W H enc T (fun n : Int => (Lit.int k n).wf = true) (fun n => [.val (.int k n)]) := by
  intro fuel cs x h
  obtain ⟨a, e0, _, wa⟩ := DataW.trod_int hT h
  refine ⟨a, wa, ?_⟩
  rw [e0]
  simp only [reps, rep]
  exact ⟨_, _, rfl, rfl, rfl⟩
theorem oc_bytes {T E : TypeId} (hT : P.underlying T = some (.slice E)) (hE : P.underlying E = some (.int .u8)) (hc : P.cellsOf E = 1) : OC P W H enc T (fun l : List UInt8 => l.length ≤ maxLen) (fun l => [.bs 0 l]) := by
  intro fuel cs x h
  have key : ∃ v bs, cs = [v] ∧ BS W v bs := by
    rcases open_ints hT hE hc h with ⟨rfl, _⟩ | ⟨x, n, c', zs, rfl, _, hl, hm, hz, _, hcell, hwz⟩
    · exact ⟨_, [], rfl, BS.nil W⟩
    · have hz' : zs.length = c' := by simpa using hz
      obtain ⟨bs, hbs⟩ := bvs_of_all (zs.map (Value.int .u8)) (fun i hi => by
        have hi' : i < zs.length := by simpa using hi
        obtain ⟨b, hb⟩ := bv_of_wf (hwz zs[i] (List.getElem_mem _))
        exact ⟨b, by simp [hi', hb]⟩)
      have hbl : bs.length = c' := by
        have := congrArg List.length hbs
        simpa [hz'] using this.symm
      refine ⟨_, bs.take n, rfl, _, _, _, rfl, (by simp [hbl]; omega), hl, hm, (fun e => by cases e), fun ad had i u hu => ?_⟩
      obtain rfl := Option.some.inj had
      rw [← bvs_take, List.getElem?_take] at hu
      split at hu
      · rw [← hbs] at hu
        simp only [List.getElem?_map, Option.map_eq_some_iff] at hu
        obtain ⟨z, hz1, rfl⟩ := hu
        have hi := (List.getElem?_eq_some_iff.1 hz1).1
        rw [hcell i hi]
        simp [List.getD, hz1]
      · cases hu
  obtain ⟨v, bs, rfl, hb⟩ := key
  have hr := bs_env0 hb
  refine ⟨bs, ?_, by simp only [reps]; exact ⟨_, _, rfl, hr, rfl⟩⟩
  obtain ⟨a, n, c, rfl, hS⟩ := hb
  have h1 := hS.len1; have h2 := hS.le; have h3 := hS.max
  omega
theorem oc_slice {T E : TypeId} {sz : Nat} (hT : P.underlying T = some (.slice E)) (hc : P.cellsOf E = sz) (hsz : 0 < sz) {α : Type} {ok : α → Prop} {f : α → List AV} (d : α) (hE : OC P W H enc E ok f) :
    OC P W H enc T (fun l : List α => l.length ≤ maxLen ∧ ∀ a ∈ l, ok a) (fun l => [.sl 0 sz f d l]) := by
  intro fuel cs x h
  rcases Go.Deep.open_slice hT h with ⟨rfl, _⟩ | ⟨a, len, cap, m, n, D, Pl, rfl, _, hl, hm, hmm, _, hx⟩
  · refine ⟨[], ⟨by simp, by simp⟩, ?_⟩
    simp only [reps, rep]
    exact ⟨_, _, rfl, ⟨none, 0, 0, rfl, rfl, Nat.le_refl _, Nat.zero_le _, fun _ => rfl, by simp⟩, rfl⟩
  · simp only [if_true] at hmm
    subst hmm
    rw [hc] at hx
    have each : ∀ i, i < len → ∃ y : α, ok y ∧ ∃ cs' : List Value, cs'.length = sz ∧ reps (env0 W) W (f y) cs' ∧ ∀ j u, cs'[j]? = some u → W.cell? ((a.add (i * sz)).add j) = some u := by
      intro i hi
      obtain ⟨cs', h1, h2⟩ := hx i (by omega)
      obtain ⟨y, h3, h4⟩ := hE n cs' _ h2
      obtain ⟨h5, h6, h7⟩ := World.cells?_some h1
      exact ⟨y, h3, cs', by omega, h4, fun j u hu => by
        have hj := (List.getElem?_eq_some_iff.1 hu).1
        rw [h7 j (by omega)]; exact hu⟩
    have build : ∀ k, k ≤ len → ∃ l : List α, l.length = k ∧ ∀ i y, l[i]? = some y → ok y ∧ ∃ cs' : List Value, cs'.length = sz ∧ reps (env0 W) W (f y) cs' ∧ ∀ j u, cs'[j]? = some u → W.cell? ((a.add (i * sz)).add j) = some u := by
      intro k
      induction k with
      | zero => intro _; exact ⟨[], rfl, by simp⟩
      | succ k ih =>
        intro hk
        obtain ⟨l, h1, h2⟩ := ih (by omega)
        obtain ⟨y, hy⟩ := each k hk
        refine ⟨l ++ [y], by simp [h1], fun i z hz => ?_⟩
        rw [List.getElem?_append] at hz
        split at hz
        · exact h2 i z hz
        · rename_i hi
          have : i = k := by
            have := (List.getElem?_eq_some_iff.1 hz).1
            simp at this; omega
          subst this
          simp [h1] at hz
          subst hz
          exact hy
    obtain ⟨l, h1, h2⟩ := build len (Nat.le_refl _)
    refine ⟨l, ⟨by omega, fun y hy => ?_⟩, ?_⟩
    · obtain ⟨i, hi, rfl⟩ := List.getElem_of_mem hy
      exact (h2 i _ (List.getElem?_eq_getElem hi)).1
    · simp only [reps, rep]
      refine ⟨_, _, rfl, ⟨some a, len, _, rfl, h1.symm, hl, hm, (fun e => by cases e), fun i y hy => ?_⟩, rfl⟩
      obtain ⟨_, cs', h3, h4, h5⟩ := h2 i y hy
      have h0 := h5 0 _ (List.getElem?_eq_getElem (by omega))
      have hi := (List.getElem?_eq_some_iff.1 hy).1
      obtain ⟨_, cs0, g3, g4, g5⟩ := h2 0 _ (List.getElem?_eq_getElem (by omega))
      have g0 := g5 0 _ (List.getElem?_eq_getElem (by omega))
      rw [Nat.zero_mul, show (a.add 0).add 0 = a by simp [Addr.add]] at g0
      have hsp : a.spot = none := by
        unfold World.cell? at g0
        cases hs : a.spot with
        | none => rfl
        | some k =>
          simp only [hs, Option.isSome_some, if_true] at g0
          split at g0 <;> cases g0
      clear g0 g5 g4
      obtain ⟨b, o, sp⟩ := a
      simp only at hsp
      subst hsp
      simp only [Addr.add_lit] at h5 h0
      refine ⟨b, o, cs', rfl, ⟨rfl, ?_⟩, h3, h4, h5⟩
      unfold World.cell? at h0
      simp only at h0
      cases hb : W.heap[b]? with
      | none => simp [hb] at h0
      | some _ => exact (Array.getElem?_eq_some_iff.1 hb).1
end
end Go.Proofs.YtebilmfljoiaeaaDoor

/-! As in Av27, where what is read is of bulk at most B. Conditions: none. -/
namespace Go.Proofs.YtebilmfljoiaeaaDoor
open Go.RowKit Go.ChangeShapes Go.WideShapes Go.ChangeAt
set_option linter.unusedVariables false
theorem bulk_one {H : Type} (d : DataW H) : 1 ≤ Rows.uptoBulk d := by
  cases d with
  | lit l => cases l <;> simp [Rows.uptoBulk]
  | nil => simp [Rows.uptoBulk]
  | ptr d => simp [Rows.uptoBulk]
  | slice elems spare => simp [Rows.uptoBulk]
  | agg parts => simp [Rows.uptoBulk]
  | iface t d => simp [Rows.uptoBulk]
  | map entries => simp [Rows.uptoBulk]
  | held h => simp [Rows.uptoBulk]
theorem bulk_part {H : Type} {d : DataW H} {l : List (DataW H)} (h : d ∈ l) : Rows.uptoBulk d ≤ Rows.uptoBulkAll l := by
  induction l with
  | nil => cases h
  | cons x r ih =>
    simp only [Rows.uptoBulkAll]
    cases List.mem_cons.1 h with
    | inl e => subst e; omega
    | inr e => have := ih e; omega
theorem bulk_len {H : Type} (l : List (DataW H)) : l.length ≤ Rows.uptoBulkAll l := by
  induction l with
  | nil => simp [Rows.uptoBulkAll]
  | cons x r ih => have := bulk_one x; simp only [Rows.uptoBulkAll, List.length_cons]; omega
theorem bulk_slice {H : Type} (elems spare : List (DataW H)) : elems.length ≤ Rows.uptoBulk (.slice elems spare) := by
  have := bulk_len elems
  simp only [Rows.uptoBulk]
  omega
theorem bulk_elem {H : Type} {elems spare : List (DataW H)} {d : DataW H} (h : d ∈ elems) : Rows.uptoBulk d ≤ Rows.uptoBulk (.slice elems spare) := by
  have := bulk_part h
  simp only [Rows.uptoBulk]
  omega
theorem bulk_agg {H : Type} {parts : List (DataW H)} {d : DataW H} (h : d ∈ parts) : Rows.uptoBulk d ≤ Rows.uptoBulk (.agg parts) := by
  have := bulk_part h
  simp only [Rows.uptoBulk]
  omega
section
variable {P : Program}
/-- what a reading of cells of a type tells of them, where it is of bulk at most B -/
def OCU (P : Program) (W : World) (H : Type) (enc : TypeId × Value → H) (B : Nat) (T : TypeId) {α : Type} (ok : α → Prop) (f : α → List AV) : Prop :=
  ∀ (fuel : Nat) (cs : List Value) (x : DataW H × List MemPlace), DataW.trod enc P W 0 (fun _ => true) true fuel T cs = some x → Rows.uptoBulk x.1 ≤ B → ∃ a : α, ok a ∧ reps (env0 W) W (f a) cs
variable {W : World} {H : Type} {enc : TypeId × Value → H} {B : Nat}
theorem ocu_of {T : TypeId} {α : Type} {ok : α → Prop} {f : α → List AV} (h : OC P W H enc T ok f) : OCU P W H enc B T ok f := fun fuel cs x hx _ => h fuel cs x hx
theorem ocu_bytes {T E : TypeId} (hT : P.underlying T = some (.slice E)) (hE : P.underlying E = some (.int .u8)) (hc : P.cellsOf E = 1) : OCU P W H enc B T (fun l : List UInt8 => l.length ≤ B) (fun l => [.bs 0 l]) := by
  intro fuel cs x h hb
  obtain ⟨l, _, hr⟩ := oc_bytes hT hE hc fuel cs x h
  refine ⟨l, ?_, hr⟩
  simp only [reps, rep] at hr
  obtain ⟨v, vs, rfl, ⟨a, n, c, rfl, hn, _⟩, rfl⟩ := hr
  rcases open_ints hT hE hc h with ⟨e, _⟩ | ⟨x, n', c', zs, e, _, hl, hm, hz, rfl, hcell, hwz⟩
  · simp only [List.cons.injEq, Value.slice.injEq, and_true] at e
    omega
  · simp only [List.cons.injEq, Value.slice.injEq, and_true] at e
    have h1 := bulk_slice (H := H) (lits .u8 (zs.take n')) (lits .u8 (zs.drop n'))
    have h2 : (lits (H := H) .u8 (zs.take n')).length = n' := by
      have hz' : zs.length = c' := by simpa using hz
      simp [lits, hz']; omega
    have h3 := Nat.le_trans h1 hb
    omega
theorem ocu_slice {T E : TypeId} {sz : Nat} (hT : P.underlying T = some (.slice E)) (hc : P.cellsOf E = sz) (hsz : 0 < sz) {α : Type} {ok : α → Prop} {f : α → List AV} (d : α) (hE : OCU P W H enc B E ok f) :
    OCU P W H enc B T (fun l : List α => l.length ≤ B ∧ ∀ a ∈ l, ok a) (fun l => [.sl 0 sz f d l]) := by
  intro fuel cs x h hb
  rcases Go.Deep.open_slice hT h with ⟨rfl, _⟩ | ⟨a, len, cap, m, n, D, Pl, rfl, _, hl, hm, hmm, hxe, hx⟩
  · refine ⟨[], ⟨by simp, by simp⟩, ?_⟩
    simp only [reps, rep]
    exact ⟨_, _, rfl, ⟨none, 0, 0, rfl, rfl, Nat.le_refl _, Nat.zero_le _, fun _ => rfl, by simp⟩, rfl⟩
  · simp only [if_true] at hmm
    subst hmm
    rw [hxe] at hb
    have hlenB : len ≤ B := by
      refine Nat.le_trans ?_ (Nat.le_trans (bulk_slice _ _) hb)
      simp
    have hDB : ∀ i, i < len → Rows.uptoBulk (D i) ≤ B := fun i hi => Nat.le_trans (bulk_elem (elems := (List.range len).map D) (List.mem_map.2 ⟨i, List.mem_range.2 hi, rfl⟩)) hb
    rw [hc] at hx
    have each : ∀ i, i < len → ∃ y : α, ok y ∧ ∃ cs' : List Value, cs'.length = sz ∧ reps (env0 W) W (f y) cs' ∧ ∀ j u, cs'[j]? = some u → W.cell? ((a.add (i * sz)).add j) = some u := by
      intro i hi
      obtain ⟨cs', h1, h2⟩ := hx i (by omega)
      obtain ⟨y, h3, h4⟩ := hE n cs' _ h2 (hDB i hi)
      obtain ⟨h5, h6, h7⟩ := World.cells?_some h1
      exact ⟨y, h3, cs', by omega, h4, fun j u hu => by
        have hj := (List.getElem?_eq_some_iff.1 hu).1
        rw [h7 j (by omega)]; exact hu⟩
    have build : ∀ k, k ≤ len → ∃ l : List α, l.length = k ∧ ∀ i y, l[i]? = some y → ok y ∧ ∃ cs' : List Value, cs'.length = sz ∧ reps (env0 W) W (f y) cs' ∧ ∀ j u, cs'[j]? = some u → W.cell? ((a.add (i * sz)).add j) = some u := by
      intro k
      induction k with
      | zero => intro _; exact ⟨[], rfl, by simp⟩
      | succ k ih =>
        intro hk
        obtain ⟨l, h1, h2⟩ := ih (by omega)
        obtain ⟨y, hy⟩ := each k hk
        refine ⟨l ++ [y], by simp [h1], fun i z hz => ?_⟩
        rw [List.getElem?_append] at hz
        split at hz
        · exact h2 i z hz
        · rename_i hi
          have : i = k := by
            have := (List.getElem?_eq_some_iff.1 hz).1
            simp at this; omega
          subst this
          simp [h1] at hz
          subst hz
          exact hy
    obtain ⟨l, h1, h2⟩ := build len (Nat.le_refl _)
    refine ⟨l, ⟨by omega, fun y hy => ?_⟩, ?_⟩
    · obtain ⟨i, hi, rfl⟩ := List.getElem_of_mem hy
      exact (h2 i _ (List.getElem?_eq_getElem hi)).1
    · simp only [reps, rep]
      refine ⟨_, _, rfl, ⟨some a, len, _, rfl, h1.symm, hl, hm, (fun e => by cases e), fun i y hy => ?_⟩, rfl⟩
      obtain ⟨_, cs', h3, h4, h5⟩ := h2 i y hy
      have h0 := h5 0 _ (List.getElem?_eq_getElem (by omega))
      have hi := (List.getElem?_eq_some_iff.1 hy).1
      obtain ⟨_, cs0, g3, g4, g5⟩ := h2 0 _ (List.getElem?_eq_getElem (by omega))
      have g0 := g5 0 _ (List.getElem?_eq_getElem (by omega))
      rw [Nat.zero_mul, show (a.add 0).add 0 = a by simp [Addr.add]] at g0
      have hsp : a.spot = none := by
        unfold World.cell? at g0
        cases hs : a.spot with
        | none => rfl
        | some k =>
          simp only [hs, Option.isSome_some, if_true] at g0
          split at g0 <;> cases g0
      clear g0 g5 g4
      obtain ⟨b, o, sp⟩ := a
      simp only at hsp
      subst hsp
      simp only [Addr.add_lit] at h5 h0
      refine ⟨b, o, cs', rfl, ⟨rfl, ?_⟩, h3, h4, h5⟩
      unfold World.cell? at h0
      simp only at h0
      cases hb : W.heap[b]? with
      | none => simp [hb] at h0
      | some _ => exact (Array.getElem?_eq_some_iff.1 hb).1
theorem ocs_slice {T E : TypeId} {sz n R : Nat} (hT : P.underlying T = some (.slice E)) (hc : P.cellsOf E = sz) (hsz : 0 < sz) {α : Type} {ok : α → Prop} {f : α → List AV} (d : α) (hE : OC P W H enc E ok f)
    {fuel : Nat} {cs : List Value} {x : DataW H × List MemPlace} (h : DataW.trod enc P W 0 (fun _ => true) true fuel T cs = some x) (hR : ∀ elems spare, x.1 = .slice elems spare → (elems.length + spare.length) * n ≤ R) :
    ∃ l : List α, (l.length * n ≤ R ∧ ∀ a ∈ l, ok a) ∧ reps (env0 W) W [.sl 0 sz f d l] cs := by
  obtain ⟨l, ⟨_, h2⟩, hr⟩ := oc_slice hT hc hsz d hE fuel cs x h
  refine ⟨l, ⟨?_, h2⟩, hr⟩
  simp only [reps, rep] at hr
  obtain ⟨v, vs, rfl, ⟨a, k, c, rfl, hn, _⟩, rfl⟩ := hr
  rcases Go.Deep.open_slice hT h with ⟨e, _⟩ | ⟨a', len, cap, m, n', D, Pl, e, _, hl, hm, hmm, hxe, hx⟩
  · simp only [List.cons.injEq, Value.slice.injEq, and_true] at e
    have : l.length = 0 := by omega
    rw [this]; omega
  · simp only [List.cons.injEq, Value.slice.injEq, and_true] at e
    have h3 := hR _ _ (by rw [hxe])
    simp only [List.length_map, List.length_range] at h3
    have h4 : l.length = len := by omega
    rw [h4]
    exact Nat.le_trans (Nat.mul_le_mul_right _ (Nat.le_add_right _ _)) h3

end
/-- what a reading of cells of a type tells of them, where all its parts are of weight at most R -/
def OCR (P : Program) (W : World) (H : Type) (enc : TypeId × Value → H) (R : Nat) (T : TypeId) {α : Type} (ok : α → Prop) (f : α → List AV) : Prop :=
  ∀ (fuel : Nat) (cs : List Value) (x : DataW H × List MemPlace), DataW.trod enc P W 0 (fun _ => true) true fuel T cs = some x → (∀ n ∈ x.1.weights P T, n ≤ R) → ∃ a : α, ok a ∧ reps (env0 W) W (f a) cs
theorem weightsAll_mem {P : Program} {H : Type} {E : TypeId} {d : DataW H} : ∀ {l : List (DataW H)}, d ∈ l → ∀ n ∈ d.weights P E, n ∈ DataW.weightsAll P E l
  | x :: l, h, n, hn => by
    simp only [DataW.weightsAll, List.mem_append]
    rcases List.mem_cons.1 h with rfl | h
    · exact Or.inl hn
    · exact Or.inr (weightsAll_mem h n hn)
section
variable {P : Program} {W : World} {H : Type} {enc : TypeId × Value → H} {R : Nat}
theorem ocr_of {T : TypeId} {α : Type} {ok : α → Prop} {f : α → List AV} (h : OC P W H enc T ok f) : OCR P W H enc R T ok f := fun fuel cs x hx _ => h fuel cs x hx
theorem ocr_bytes {T E : TypeId} (hT : P.underlying T = some (.slice E)) (hE : P.underlying E = some (.int .u8)) (hc : P.cellsOf E = 1) (hby : P.bytesOf E = 1) : OCR P W H enc R T (fun l : List UInt8 => l.length ≤ R) (fun l => [.bs 0 l]) := by
  intro fuel cs x h hb
  obtain ⟨l, _, hr⟩ := oc_bytes hT hE hc fuel cs x h
  refine ⟨l, ?_, hr⟩
  simp only [reps, rep] at hr
  obtain ⟨v, vs, rfl, ⟨a, n, c, rfl, hn, _⟩, rfl⟩ := hr
  rcases open_ints hT hE hc h with ⟨e, _⟩ | ⟨x, n', c', zs, e, _, hl, hm, hz, rfl, hcell, hwz⟩
  · simp only [List.cons.injEq, Value.slice.injEq, and_true] at e
    omega
  · simp only [List.cons.injEq, Value.slice.injEq, and_true] at e
    simp only [DataW.weights, hT, hby, Nat.mul_one] at hb
    have h1 := hb _ (List.mem_cons_self ..)
    have h2 : (lits (H := H) .u8 (zs.take n')).length = n' := by
      have hz' : zs.length = c' := by simpa using hz
      simp [lits, hz']; omega
    omega
theorem ocr_slice {T E : TypeId} {sz : Nat} (hT : P.underlying T = some (.slice E)) (hc : P.cellsOf E = sz) (hsz : 0 < sz) {α : Type} {ok : α → Prop} {f : α → List AV} (d : α) (hE : OCR P W H enc R E ok f) :
    OCR P W H enc R T (fun l : List α => (l.length ≤ maxLen ∧ l.length * P.bytesOf E ≤ R) ∧ ∀ a ∈ l, ok a) (fun l => [.sl 0 sz f d l]) := by
  intro fuel cs x h hb
  rcases Go.Deep.open_slice hT h with ⟨rfl, _⟩ | ⟨a, len, cap, m, n, D, Pl, rfl, _, hl, hm, hmm, hxe, hx⟩
  · refine ⟨[], ⟨⟨by simp, by simp⟩, by simp⟩, ?_⟩
    simp only [reps, rep]
    exact ⟨_, _, rfl, ⟨none, 0, 0, rfl, rfl, Nat.le_refl _, Nat.zero_le _, fun _ => rfl, by simp⟩, rfl⟩
  · simp only [if_true] at hmm
    subst hmm
    rw [hxe] at hb
    simp only [DataW.weights, hT] at hb
    have hlenB : len * P.bytesOf E ≤ R := by
      have h0 := hb _ (List.mem_cons_self ..)
      simp only [List.length_map, List.length_range] at h0
      exact Nat.le_trans (Nat.mul_le_mul_right _ (Nat.le_add_right _ _)) h0
    have hDB : ∀ i, i < len → ∀ n ∈ (D i).weights P E, n ≤ R := fun i hi n hn =>
      hb n (List.mem_cons_of_mem _ (List.mem_append_left _ (weightsAll_mem (List.mem_map.2 ⟨i, List.mem_range.2 hi, rfl⟩) n hn)))
    rw [hc] at hx
    have each : ∀ i, i < len → ∃ y : α, ok y ∧ ∃ cs' : List Value, cs'.length = sz ∧ reps (env0 W) W (f y) cs' ∧ ∀ j u, cs'[j]? = some u → W.cell? ((a.add (i * sz)).add j) = some u := by
      intro i hi
      obtain ⟨cs', h1, h2⟩ := hx i (by omega)
      obtain ⟨y, h3, h4⟩ := hE n cs' _ h2 (hDB i hi)
      obtain ⟨h5, h6, h7⟩ := World.cells?_some h1
      exact ⟨y, h3, cs', by omega, h4, fun j u hu => by
        have hj := (List.getElem?_eq_some_iff.1 hu).1
        rw [h7 j (by omega)]; exact hu⟩
    have build : ∀ k, k ≤ len → ∃ l : List α, l.length = k ∧ ∀ i y, l[i]? = some y → ok y ∧ ∃ cs' : List Value, cs'.length = sz ∧ reps (env0 W) W (f y) cs' ∧ ∀ j u, cs'[j]? = some u → W.cell? ((a.add (i * sz)).add j) = some u := by
      intro k
      induction k with
      | zero => intro _; exact ⟨[], rfl, by simp⟩
      | succ k ih =>
        intro hk
        obtain ⟨l, h1, h2⟩ := ih (by omega)
        obtain ⟨y, hy⟩ := each k hk
        refine ⟨l ++ [y], by simp [h1], fun i z hz => ?_⟩
        rw [List.getElem?_append] at hz
        split at hz
        · exact h2 i z hz
        · rename_i hi
          have : i = k := by
            have := (List.getElem?_eq_some_iff.1 hz).1
            simp at this; omega
          subst this
          simp [h1] at hz
          subst hz
          exact hy
    obtain ⟨l, h1, h2⟩ := build len (Nat.le_refl _)
    refine ⟨l, ⟨⟨by omega, by rw [h1]; exact hlenB⟩, fun y hy => ?_⟩, ?_⟩
    · obtain ⟨i, hi, rfl⟩ := List.getElem_of_mem hy
      exact (h2 i _ (List.getElem?_eq_getElem hi)).1
    · simp only [reps, rep]
      refine ⟨_, _, rfl, ⟨some a, len, _, rfl, h1.symm, hl, hm, (fun e => by cases e), fun i y hy => ?_⟩, rfl⟩
      obtain ⟨_, cs', h3, h4, h5⟩ := h2 i y hy
      have h0 := h5 0 _ (List.getElem?_eq_getElem (by omega))
      have hi := (List.getElem?_eq_some_iff.1 hy).1
      obtain ⟨_, cs0, g3, g4, g5⟩ := h2 0 _ (List.getElem?_eq_getElem (by omega))
      have g0 := g5 0 _ (List.getElem?_eq_getElem (by omega))
      rw [Nat.zero_mul, show (a.add 0).add 0 = a by simp [Addr.add]] at g0
      have hsp : a.spot = none := by
        unfold World.cell? at g0
        cases hs : a.spot with
        | none => rfl
        | some k =>
          simp only [hs, Option.isSome_some, if_true] at g0
          split at g0 <;> cases g0
      clear g0 g5 g4
      obtain ⟨b, o, sp⟩ := a
      simp only at hsp
      subst hsp
      simp only [Addr.add_lit] at h5 h0
      refine ⟨b, o, cs', rfl, ⟨rfl, ?_⟩, h3, h4, h5⟩
      unfold World.cell? at h0
      simp only at h0
      cases hb : W.heap[b]? with
      | none => simp [hb] at h0
      | some _ => exact (Array.getElem?_eq_some_iff.1 hb).1
end
end Go.Proofs.YtebilmfljoiaeaaDoor
