/- From arguments to abstract values. Conditions: none. -/
import Derived.Test.YtmjpbmcbcppkfaaGreatDoorJHb
import Derived.DeepKeys4
import Derived.Maps.Keyed
import Derived.ProofKit
import Derived.OpenShut
import Derived.ShutString
import Derived.ChangeOld
import Derived.Test.YtmjpbmcbcppkfaaGreatDoorJAc
import Derived.Deep.Slices
import Derived.Test.YtmjpbmcbcppkfaaGreatDoorRows
/-! Equality of arrays of bytes (guids), and of structs of a string and such an array, as map keys. Conditions: the premises of each law. -/
namespace Go.Proofs.YtmjpbmcbcppkfaaGreatDoor
open Go.RowKit

theorem mapM_some' {α β : Type} {f : α → Option β} {h : α → β} : ∀ (l : List α), (∀ x ∈ l, f x = some (h x)) → l.mapM f = some (l.map h)
 | [], _ => rfl
 | x :: l, hx => by
  rw [List.mapM_cons, hx x (by simp), mapM_some' l (fun y hy => hx y (by simp [hy]))]
  rfl
def blits (g : List UInt8) : List Lit := g.map fun b => Lit.int .u8 b.toNat
section
variable {P : Program}
theorem keyLits_bytes {t E n : Nat} (hu : P.underlying t = some (.array n E)) (hE : P.underlying E = some (.int .u8)) (hct : P.cellsOf t = n) (hcE : P.cellsOf E = 1) {g : List UInt8} (hg : g.length = n) (d : Nat) :
    P.keyLits (d + 2) t (bvs g) = some (blits g) := by
 unfold Program.keyLits
 simp only [hu, hct, bvs_length, hg, if_true, hcE, Nat.mul_one]
 rw [mapM_some' (h := fun i => [Lit.int .u8 ((g.getD i 0).toNat)]) (List.range n) (fun i hi => ?_)]
 ·simp only [Option.map_some, Option.some.injEq]
  rw [← List.flatMap_def, ← List.map_eq_flatMap]
  apply List.ext_getElem
  ·simp [blits, hg]
  ·intro i h1 h2
   have hi : i < g.length := by simpa [hg] using h1
   simp [blits, hi]
 ·have hi' : i < g.length := by rw [hg]; exact List.mem_range.1 hi
  have e : ((bvs g).drop i).take 1 = [bv (g.getD i 0)] := by
   rw [bvs_drop, List.drop_eq_getElem_cons hi']
   simp only [bvs, List.map_cons, List.take_succ_cons, List.take_zero, List.getD, List.getElem?_eq_getElem hi', Option.getD_some]
  rw [e]
  unfold Program.keyLits
  simp only [hE, bv]
  have hlt := UInt8.toNat_lt (g.getD i 0)
  have : (Lit.int .u8 ((g.getD i 0).toNat : Int)).wf = true := WalkArith.wf_u8 (by omega)
  rw [if_pos ⟨trivial, this⟩]
def gv (g : List UInt8) : Value := .agg (bvs g).toArray
def sgv (s : List UInt8) (g : List UInt8) : Value := .agg (Value.string (strOf s) :: bvs g).toArray
theorem sgv_inj {s s' g g' : List UInt8} (h : sgv s g = sgv s' g') : s = s' ∧ g = g' := by
 unfold sgv at h
 simp only [Value.agg.injEq] at h
 have h' := congrArg Array.toList h
 simp only [List.cons.injEq, Value.string.injEq] at h'
 exact ⟨strOf_inj h'.1, bvs_inj h'.2⟩
theorem keyLits_str {t : TypeId} (hu : P.underlying t = some .string) {s : List UInt8} (hs : s.length ≤ maxLen) (d : Nat) : P.keyLits (d + 1) t [.string (strOf s)] = some [.string s] := by
 unfold Program.keyLits
 simp [hu, strOf_size, hs]
theorem keyOf_sgv {k t S E n : Nat} {f1 f2 : Field} (hk : P.underlying k = some (.struct #[f1, f2])) (h1 : f1.type = S) (h2 : f2.type = t) (o1 : f1.offset = 0) (o2 : f2.offset = 1) (n1 : f1.name ≠ "_") (n2 : f2.name ≠ "_") (hS : P.underlying S = some .string) (hcS : P.cellsOf S = 1)
    (hu : P.underlying t = some (.array n E)) (hE : P.underlying E = some (.int .u8)) (hct : P.cellsOf t = n) (hcE : P.cellsOf E = 1) (hck : P.cellsOf k = n + 1) (hkt : P.keyType k = true) (hsz : 2 ≤ P.types.size) {s g : List UInt8} (hs : s.length ≤ maxLen) (hg : g.length = n) :
    ∃ l, keyOf P k (sgv s g) = some l := by
 have hform : (sgv s g).formed P k = true := by
  unfold Value.formed sgv
  simp [hk, hck, hg]
 obtain ⟨D, hD⟩ : ∃ D, P.types.size = D + 2 := ⟨P.types.size - 2, by omega⟩
 have e1 := keyLits_bytes hu hE hct hcE hg D
 have e2 := keyLits_str hS hs (D + 1)
 have : P.keyLits (P.types.size + 1) k (sgv s g).cells.toList = some ([Lit.string s] ++ blits g) := by
  rw [hD]
  unfold Program.keyLits sgv
  simp only [hk, Value.cells, hck]
  have hl : (Value.string (strOf s) :: bvs g).length = n + 1 := by simp [hg]
  have ht : (bvs g).take n = bvs g := List.take_of_length_le (by simp [hg])
  simp [hg, n1, n2, h1, h2, o1, o2, hcS, hct, e2, ht, e1]
 unfold keyOf
 simp only [hk, hkt, hform, Bool.and_true, if_true, this]
 exact ⟨_, rfl⟩

end
end Go.Proofs.YtmjpbmcbcppkfaaGreatDoor

/-! Openers for a law's arguments: byte slices, arrays of bytes. Conditions: the premises of each. -/
namespace Go.Proofs.YtmjpbmcbcppkfaaGreatDoor
open Go.ChangeShapes Go.WideShapes Go.ChangeAt Go.RowKit
open Go.ChangeMaps (open_string shut_string)
theorem bvs_of_all : ∀ (l : List Value), (∀ i, i < l.length → ∃ b : UInt8, l[i]? = some (bv b)) → ∃ g, l = bvs g
 | [], _ => ⟨[], rfl⟩
 | x :: l, h => by
  obtain ⟨b, hb⟩ := h 0 (by simp)
  obtain ⟨g, hg⟩ := bvs_of_all l (fun i hi => by have := h (i + 1) (by simpa using hi); simpa using this)
  refine ⟨b :: g, ?_⟩
  simp only [List.getElem?_cons_zero, Option.some.injEq] at hb
  rw [hb, hg]; rfl
theorem bv_of_wf {n : Int} (h : (Lit.int .u8 n).wf = true) : ∃ b : UInt8, (.int .u8 n : Value) = bv b := by
 have hb := bounds_u8 h
 refine ⟨UInt8.ofNat n.toNat, ?_⟩
 unfold bv
 have : (UInt8.ofNat n.toNat).toNat = n.toNat := by simp; omega
 rw [this]
 congr 1; omega
section
variable {H : Type} {enc : TypeId × Value → H} {P : Program} {w : World} {base : Nat} {spare : Nat → Bool} {held : Bool}
end
end Go.Proofs.YtmjpbmcbcppkfaaGreatDoor

/-! From a statement's arguments to abstract values, and from what is known of a function to the statement's answer. Conditions: none. -/
namespace Go.Proofs.YtmjpbmcbcppkfaaGreatDoor
open Go.RowKit Go.ChangeShapes Go.WideShapes Go.ChangeAt
set_option linter.unusedVariables false
section
variable {P : Program}
theorem join_val {f : FuncId} {args : List AV} {u : Value} (S : Spec P f args [] (pms (.val u) [] [])) {W : World} {cargs : List Value} (h : reps (env0 W) W args cargs) (hgl : Gl (env0 W) W) :
    Calls P f cargs.toArray W fun e W' => e = .returned u ∧ Below W.heap.size W W' := by
 have hr : HR (env0 W) W [] := ⟨by simp, by simp, by simp, by simp, fun z b h => h.2, by simp, fun r _ => ⟨rfl, fun h => h⟩, hgl, by simp⟩
 refine Calls.mono (S W (env0 W) cargs hr h) fun e w' ⟨v, x, H1, E1, he, ⟨tl, hx, _, _⟩, hv, _, _, _, _, _, hfr⟩ => ?_
 subst hx
 rw [rep_val hv] at he
 exact ⟨he, hfr.os, hfr.tape, hfr.output, hfr.size, fun k hk => hfr.block k hk (fun r e h => by simp at h)⟩
theorem bs_env0 {w : World} {v : Value} {l : List UInt8} (h : BS w v l) : rep (env0 w) w (.bs 0 l) v := by
 obtain ⟨a, n, c, rfl, hS⟩ := h
 rw [rep]
 refine ⟨a, n, c, rfl, hS.len1.symm, hS.le, hS.max, hS.nil, fun i x hx => ?_⟩
 have hn : 0 < n := by
  have := (List.getElem?_eq_some_iff.1 hx).1
  have := hS.len1; omega
 obtain ⟨b, o, rfl, hc⟩ := hS.addr hn (by decide)
 have h1 := hc i (bv x) (by rw [bvs, List.getElem?_map, hx]; rfl)
 refine ⟨b, o, rfl, ⟨rfl, ?_⟩, h1⟩
 unfold World.cell? at h1
 simp only at h1
 cases hb : w.heap[b]? with
 | none => simp [hb] at h1
 | some _ => exact (Array.getElem?_eq_some_iff.1 hb).1
def OC (P : Program) (W : World) (H : Type) (enc : TypeId × Value → H) (T : TypeId) {α : Type} (ok : α → Prop) (f : α → List AV) : Prop :=
 ∀ (fuel : Nat) (cs : List Value) (x : DataW H × List MemPlace), DataW.trod enc P W 0 (fun _ => true) true fuel T cs = some x → ∃ a : α, ok a ∧ reps (env0 W) W (f a) cs
variable {W : World} {H : Type} {enc : TypeId × Value → H}
theorem oc_int {T : TypeId} {k : IntKind} (hT : P.underlying T = some (.int k)) : OC P W H enc T (fun n : Int => (Lit.int k n).wf = true) (fun n => [.val (.int k n)]) := by
 intro fuel cs x h
 obtain ⟨a, e0, _, wa⟩ := DataW.trod_int hT h
 refine ⟨a, wa, ?_⟩
 rw [e0]
 simp only [reps, rep]
 exact ⟨_, _, rfl, rfl, rfl⟩
theorem oc_bytes {T E : TypeId} (hT : P.underlying T = some (.slice E)) (hE : P.underlying E = some (.int .u8)) (hc : P.cellsOf E = 1) : OC P W H enc T (fun l : List UInt8 => l.length ≤ maxLen) (fun l => [.bs 0 l]) := by
 intro fuel cs x h
 have key : ∃ v bs, cs = [v] ∧ BS W v bs := by
  rcases open_ints hT hE hc h with ⟨rfl, _⟩ | ⟨x, n, c', zs, rfl, _, hl, hm, hz, _, hcell, hwz⟩
  ·exact ⟨_, [], rfl, BS.nil W⟩
  ·have hz' : zs.length = c' := by simpa using hz
   obtain ⟨bs, hbs⟩ := bvs_of_all (zs.map (Value.int .u8)) (fun i hi => by
    have hi' : i < zs.length := by simpa using hi
    obtain ⟨b, hb⟩ := bv_of_wf (hwz zs[i] (List.getElem_mem _))
    exact ⟨b, by simp [hi', hb]⟩)
   have hbl : bs.length = c' := by
    have := congrArg List.length hbs
    simpa [hz'] using this.symm
   refine ⟨_, bs.take n, rfl, _, _, _, rfl, (by simp [hbl]; omega), hl, hm, (fun e => by cases e), fun ad had i u hu => ?_⟩
   obtain rfl := Option.some.inj had
   rw [← bvs_take, List.getElem?_take] at hu
   split at hu
   ·rw [← hbs] at hu
    simp only [List.getElem?_map, Option.map_eq_some_iff] at hu
    obtain ⟨z, hz1, rfl⟩ := hu
    have hi := (List.getElem?_eq_some_iff.1 hz1).1
    rw [hcell i hi]
    simp [List.getD, hz1]
   ·cases hu
 obtain ⟨v, bs, rfl, hb⟩ := key
 have hr := bs_env0 hb
 refine ⟨bs, ?_, by simp only [reps]; exact ⟨_, _, rfl, hr, rfl⟩⟩
 obtain ⟨a, n, c, rfl, hS⟩ := hb
 have h1 := hS.len1; have h2 := hS.le; have h3 := hS.max
 omega
end
end Go.Proofs.YtmjpbmcbcppkfaaGreatDoor

/-! As in Av27, where what is read is of bulk at most B. Conditions: none. -/
namespace Go.Proofs.YtmjpbmcbcppkfaaGreatDoor
open Go.RowKit Go.ChangeShapes Go.WideShapes Go.ChangeAt
set_option linter.unusedVariables false
section
variable {P : Program}
variable {W : World} {H : Type} {enc : TypeId × Value → H} {B : Nat}
end
def OCR (P : Program) (W : World) (H : Type) (enc : TypeId × Value → H) (R : Nat) (T : TypeId) {α : Type} (ok : α → Prop) (f : α → List AV) : Prop :=
 ∀ (fuel : Nat) (cs : List Value) (x : DataW H × List MemPlace), DataW.trod enc P W 0 (fun _ => true) true fuel T cs = some x → (∀ n ∈ x.1.weights P T, n ≤ R) → ∃ a : α, ok a ∧ reps (env0 W) W (f a) cs
section
variable {P : Program} {W : World} {H : Type} {enc : TypeId × Value → H} {R : Nat}
theorem ocr_bytes {T E : TypeId} (hT : P.underlying T = some (.slice E)) (hE : P.underlying E = some (.int .u8)) (hc : P.cellsOf E = 1) (hby : P.bytesOf E = 1) : OCR P W H enc R T (fun l : List UInt8 => l.length ≤ R) (fun l => [.bs 0 l]) := by
 intro fuel cs x h hb
 obtain ⟨l, _, hr⟩ := oc_bytes hT hE hc fuel cs x h
 refine ⟨l, ?_, hr⟩
 simp only [reps, rep] at hr
 obtain ⟨v, vs, rfl, ⟨a, n, c, rfl, hn, _⟩, rfl⟩ := hr
 rcases open_ints hT hE hc h with ⟨e, _⟩ | ⟨x, n', c', zs, e, _, hl, hm, hz, rfl, hcell, hwz⟩
 ·simp only [List.cons.injEq, Value.slice.injEq, and_true] at e
  omega
 ·simp only [List.cons.injEq, Value.slice.injEq, and_true] at e
  simp only [DataW.weights, hT, hby, Nat.mul_one] at hb
  have h1 := hb _ (List.mem_cons_self ..)
  have h2 : (lits (H := H) .u8 (zs.take n')).length = n' := by
   have hz' : zs.length = c' := by simpa using hz
   simp [lits, hz']; omega
  omega
end
end Go.Proofs.YtmjpbmcbcppkfaaGreatDoor
