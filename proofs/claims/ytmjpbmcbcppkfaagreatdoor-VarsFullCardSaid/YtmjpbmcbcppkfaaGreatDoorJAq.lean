/- Arrays and structs of numbers, bools and strings, held against each other. Conditions: the premises of each. -/
import Derived.Test.YtmjpbmcbcppkfaaGreatDoorJAa
import Derived.DeepKeys4
import Derived.Maps.Keyed
namespace Go.Proofs.YtmjpbmcbcppkfaaGreatDoor
set_option linter.unusedVariables false
set_option linter.unusedSimpArgs false
open Go.RowKit
def litOf : Value → Lit
 | .int k n => .int k n
 | .bool b => .bool b
 | .string s => .string s.data.toList
 | _ => .bool false
theorem fitV_get : ∀ {z vs : List Value}, fitV z vs → vs.length = z.length ∧ ∀ (i : Nat) (v : Value), vs[i]? = some v → ∃ u, z[i]? = some u ∧ fit1 u v
 | [], [], _ => ⟨rfl, fun i v h => by simp at h⟩
 | x :: z, y :: vs, h => by
  simp only [fitV] at h
  obtain ⟨h1, h2⟩ := fitV_get h.2
  refine ⟨by simp [h1], fun i v hv => ?_⟩
  cases i with
  | zero => simp only [List.getElem?_cons_zero, Option.some.injEq] at hv; subst hv; exact ⟨x, rfl, h.1⟩
  | succ i => simpa using h2 i v (by simpa using hv)
 | [], _ :: _, h => by simp only [fitV] at h
 | _ :: _, [], h => by simp only [fitV] at h
theorem inK_wf {k : IntKind} {n : Int} (h : inK k n) : (Lit.int k n).wf = true := by
 cases k <;> simp only [inK] at h <;> first | exact WalkArith.wf_u8 h | exact WalkArith.wf_u16 h | exact WalkArith.wf_u32 h | exact WalkArith.wf_u64 h | exact WalkArith.wf_i8 h | exact WalkArith.wf_i16 h | exact WalkArith.wf_i32 h | exact WalkArith.wf_i64 h
theorem eq1 {u v v' : Value} (h : fit1 u v) (h' : fit1 u v') : (litOf v = litOf v') ↔ eqV v v' = true := by
 cases u <;> cases v <;> simp only [fit1] at h <;> cases v' <;> simp only [fit1] at h'
 ·simp [litOf, eqV]
 ·obtain ⟨rfl, _⟩ := h
  obtain ⟨rfl, _⟩ := h'
  simp [litOf, eqV]
 ·simp [litOf, eqV]
theorem eqs {z : List Value} : ∀ {vs ws : List Value}, fitV z vs → fitV z ws → ((vs.map litOf = ws.map litOf) ↔ eqVs vs ws = true) := by
 induction z with
 | nil => intro vs ws h h'; cases vs <;> cases ws <;> simp_all [fitV, eqVs]
 | cons x z ih =>
  intro vs ws h h'
  cases vs with
  | nil => simp only [fitV] at h
  | cons v vs =>
   cases ws with
   | nil => simp only [fitV] at h'
   | cons u ws =>
    simp only [fitV] at h h'
    simp only [List.map_cons, List.cons.injEq, eqVs, Bool.and_eq_true]
    rw [eq1 h.1 h'.1, ih h.2 h'.2]
section
variable {P : Program}
def leafT (P : Program) (t : TypeId) (u : Value) : Prop := match u with
 | .int k _ => P.underlying t = some (.int k)
 | .bool _ => P.underlying t = some .bool
 | .string _ => P.underlying t = some .string
 | _ => False
theorem leaf_lits {t : TypeId} {u v : Value} (ht : leafT P t u) (h : fit1 u v) (d : Nat) : P.keyLits (d + 1) t [v] = some [litOf v] := by
 cases u <;> simp only [leafT] at ht <;> cases v <;> simp only [fit1] at h
 ·unfold Program.keyLits; simp only [ht, litOf]
 ·obtain ⟨rfl, h⟩ := h
  unfold Program.keyLits
  simp only [ht, litOf]
  rw [if_pos ⟨trivial, inK_wf h⟩]
 ·unfold Program.keyLits
  simp only [ht, litOf]
  rw [if_pos h]
theorem cell_take {vs : List Value} {i : Nat} {v : Value} (h : vs[i]? = some v) : (vs.drop i).take 1 = [v] := by
 obtain ⟨hi, rfl⟩ := List.getElem?_eq_some_iff.1 h
 rw [List.drop_eq_getElem_cons hi, List.take_succ_cons, List.take_zero]
theorem mapM_lits (vs : List Value) {α : Type} (f : α → Option (List Lit)) : ∀ (l : List α) (n : Nat), n + l.length = vs.length → (∀ (i : Nat) (x : α), l[i]? = some x → ∃ v, vs[n + i]? = some v ∧ f x = some [litOf v]) → l.mapM f = some ((vs.drop n).map fun v => [litOf v])
 | [], n, hn, _ => by
  rw [List.drop_of_length_le (by simp at hn; omega)]; rfl
 | x :: l, n, hn, h => by
  obtain ⟨v, h1, h2⟩ := h 0 x rfl
  have h3 := mapM_lits vs f l (n + 1) (by simp only [List.length_cons] at hn; omega) fun i y hy => by
   obtain ⟨v', g1, g2⟩ := h (i + 1) y (by simpa using hy)
   exact ⟨v', by rw [show n + 1 + i = n + (i + 1) by omega]; exact g1, g2⟩
  rw [List.mapM_cons, h2, h3]
  have hi := (List.getElem?_eq_some_iff.1 h1).1
  rw [Nat.add_zero] at hi h1
  obtain ⟨_, rfl⟩ := List.getElem?_eq_some_iff.1 h1
  rw [List.drop_eq_getElem_cons hi]
  rfl
theorem flat1 (l : List Value) : (l.map fun v => [litOf v]).flatten = l.map litOf := by
 induction l with
 | nil => rfl
 | cons x l ih => simp [ih]
theorem lits_arr {t e n : Nat} {u : Value} (hu : P.underlying t = some (.array n e)) (he : leafT P e u) (hct : P.cellsOf t = n) (hce : P.cellsOf e = 1) {vs : List Value} (hf : fitV (List.replicate n u) vs) (d : Nat) : P.keyLits (d + 2) t vs = some (vs.map litOf) := by
 obtain ⟨h1, h2⟩ := fitV_get hf
 rw [List.length_replicate] at h1
 unfold Program.keyLits
 simp only [hu, hct, h1, if_true, hce, Nat.mul_one]
 rw [mapM_lits vs _ (List.range n) 0 (by simp [h1]) fun i x hx => ?_]
 ·rw [List.drop_zero, Option.map_some, flat1]
 ·have hi : i < n := by have := (List.getElem?_eq_some_iff.1 hx).1; simpa using this
  obtain rfl : i = x := by rw [List.getElem?_range hi] at hx; exact Option.some.inj hx
  have hv : vs[i]? = some vs[i] := List.getElem?_eq_getElem (by omega)
  obtain ⟨u', g1, g2⟩ := h2 i _ hv
  rw [List.getElem?_replicate, if_pos hi] at g1
  cases g1
  exact ⟨_, by rw [Nat.zero_add]; exact hv, by rw [cell_take hv]; exact leaf_lits he g2 d⟩
theorem lits_flat {t : Nat} {fs : Array Field} {z : List Value} (hu : P.underlying t = some (.struct fs)) (hct : P.cellsOf t = z.length) (hsz : fs.size = z.length) (hn : fs.all (·.name != "_") = true)
    (hl : ∀ (i : Nat) (f : Field), fs.toList[i]? = some f → f.offset = i ∧ P.cellsOf f.type = 1 ∧ ∃ u, z[i]? = some u ∧ leafT P f.type u) {vs : List Value} (hf : fitV z vs) (d : Nat) : P.keyLits (d + 2) t vs = some (vs.map litOf) := by
 obtain ⟨h1, h2⟩ := fitV_get hf
 unfold Program.keyLits
 simp only [hu, hct, h1, hn, and_self, if_true]
 rw [mapM_lits vs _ fs.toList 0 (by simp [h1, hsz]) fun i f hx => ?_]
 ·rw [List.drop_zero, Option.map_some, flat1]
 ·obtain ⟨g1, g2, u, g3, g4⟩ := hl i f hx
  have hi : i < vs.length := by have := (List.getElem?_eq_some_iff.1 hx).1; simp at this; omega
  have hv : vs[i]? = some vs[i] := List.getElem?_eq_getElem hi
  obtain ⟨u', q1, q2⟩ := h2 i _ hv
  rw [g3] at q1; cases q1
  exact ⟨_, by rw [Nat.zero_add]; exact hv, by rw [g1, g2, cell_take hv]; exact leaf_lits g4 q2 d⟩
def flatOk (P : Program) : List Field → List Value → Nat → Prop
 | [], [], _ => True
 | f :: fs, u :: z, i => (f.offset = i ∧ P.cellsOf f.type = 1 ∧ leafT P f.type u) ∧ flatOk P fs z (i + 1)
 | _, _, _ => False
theorem flatOk_get : ∀ {fs : List Field} {z : List Value} {n : Nat}, flatOk P fs z n → ∀ (i : Nat) (f : Field), fs[i]? = some f → f.offset = n + i ∧ P.cellsOf f.type = 1 ∧ ∃ u, z[i]? = some u ∧ leafT P f.type u
 | [], [], n, _, i, f, h => by simp at h
 | g :: fs, u :: z, n, h, i, f, hf => by
  simp only [flatOk] at h
  cases i with
  | zero =>
   simp only [List.getElem?_cons_zero, Option.some.injEq] at hf
   subst hf
   exact ⟨h.1.1, h.1.2.1, u, rfl, h.1.2.2⟩
  | succ i =>
   obtain ⟨h1, h2, h3⟩ := flatOk_get h.2 i f (by simpa using hf)
   exact ⟨by omega, h2, by simpa using h3⟩
 | [], _ :: _, n, h, i, f, hf => by simp only [flatOk] at h
 | _ :: _, [], n, h, i, f, hf => by simp only [flatOk] at h
theorem eqT_of {t m : Nat} {z : List Value} (hk : P.keyTypeAt m t = true) (hm : m ≤ 10000) (hg : P.eqGuardType P.depth t = false) (hform : (match P.underlying t with | some (.array _ _) | some (.struct _) => true | _ => false) = true) (hc : P.cellsOf t = z.length)
    (hl : ∀ vs, fitV z vs → P.keyLits 2 t vs = some (vs.map litOf)) : EqT P t z := by
 intro w vs ws x y hv hw
 have h1 := hl vs hv
 have h2 := hl ws hw
 have f : ∀ {us : List Value}, fitV z us → (Value.agg us.toArray).formed P t = true := fun {us} h => by
  have := (fitV_get h).1
  unfold Value.formed
  split at hform <;> simp_all
 obtain ⟨r, hr, hiff⟩ := run_equalIn_deep (P := P) (10000 - m) m t hk w 2 2 (.agg vs.toArray) (.agg ws.toArray) _ _ (f hv) (f hw) (by simpa [Value.cells] using h1) (by simpa [Value.cells] using h2)
 rw [show 10000 - m + m = 10000 by omega] at hr
 have hreq : r = eqVs vs ws := by
  rw [Bool.eq_iff_iff, hiff, eqs hv hw]
 subst hreq
 refine ⟨run_eqGuard_agg (P := P) w .eql t x y vs.toArray ws.toArray hg, run_eqGuard_agg (P := P) w .neq t x y vs.toArray ws.toArray hg, ?_, ?_⟩
 ·rw [run_eql_struct, hr]; rfl
 ·rw [run_neq_struct, hr]; rfl
theorem eqT_arr {t e n : Nat} {u : Value} (hu : P.underlying t = some (.array n e)) (he : leafT P e u) (hct : P.cellsOf t = n) (hce : P.cellsOf e = 1) (hk : P.keyTypeAt 2 t = true) (hg : P.eqGuardType P.depth t = false) : EqT P t (List.replicate n u) :=
 eqT_of hk (by decide) hg (by rw [hu]) (by rw [hct, List.length_replicate]) fun vs hv => lits_arr hu he hct hce hv 0
theorem eqT_flat {t : Nat} {fs : Array Field} {z : List Value} (hu : P.underlying t = some (.struct fs)) (hct : P.cellsOf t = z.length) (hsz : fs.size = z.length) (hn : fs.all (·.name != "_") = true) (hl : flatOk P fs.toList z 0) (hk : P.keyTypeAt 2 t = true) (hg : P.eqGuardType P.depth t = false) : EqT P t z :=
 eqT_of hk (by decide) hg (by rw [hu]) hct fun vs hv => lits_flat hu hct hsz hn (fun i f h => by have := flatOk_get hl i f h; rw [Nat.zero_add] at this; exact this) hv 0
end
end Go.Proofs.YtmjpbmcbcppkfaaGreatDoor
