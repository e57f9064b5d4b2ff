/- Base laws for the walks of this seat: slices that read as lists (Sl), rows that the call owns and appends to (Own), worlds that differ in named blocks (Ch), and the walk's laws for append, slicing and conversions over them. Conditions: none beyond each law's own premises. The package variables that are laid: crc.table. Conditions: the premises of each law. -/
import Derived.WalkKit
import Derived.WalkLawsBesides
import Derived.WalkSpells
import Derived.Lib.ConvBytes
import Derived.Deep.AppendSrc
import Derived.StillTail
namespace Go.Proofs.YtmjpbmcbcppkfaaGreatDoor
open Go.RowKit

def bv (b : UInt8) : Value := .int .u8 b.toNat
def bvs (l : List UInt8) : List Value := l.map bv
@[simp] theorem bvs_length (l : List UInt8) : (bvs l).length = l.length := by simp [bvs]
theorem bvs_drop (l : List UInt8) (n : Nat) : (bvs l).drop n = bvs (l.drop n) := by simp [bvs, List.map_drop]
theorem bvs_take (l : List UInt8) (n : Nat) : (bvs l).take n = bvs (l.take n) := by simp [bvs, List.map_take]
theorem bvs_one (l : List UInt8) : ∀ u ∈ bvs l, u.oneCell' = true := by
 intro u hu; obtain ⟨_, _, rfl⟩ := List.mem_map.1 hu; rfl
theorem bvs_inj {l m : List UInt8} (h : bvs l = bvs m) : l = m := by
 refine List.map_inj_right (f := bv) ?_ |>.1 h
 intro a b hab
 simp only [bv, Value.int.injEq, true_and] at hab
 exact UInt8.toNat_inj.1 (by omega)

theorem add_add (a : Addr) (m n : Nat) : (a.add m).add n = a.add (m + n) := by
 unfold Addr.add
 by_cases hm : m = 0 <;> by_cases hn : n = 0 <;> simp [hm, hn, Nat.add_assoc]
theorem add_block (a : Addr) (m : Nat) : (a.add m).block = a.block := by
 unfold Addr.add; split <;> rfl

/-! worlds -/
structure Ch (w w' : World) (S : Nat → Prop) : Prop where
 os : w'.os = w.os
 tape : w'.tape = w.tape
 output : w'.output = w.output
 size : w.heap.size ≤ w'.heap.size
 block : ∀ k, k < w.heap.size → ¬ S k → w'.heap[k]? = w.heap[k]?
theorem Ch.refl (w : World) (S : Nat → Prop) : Ch w w S := ⟨rfl, rfl, rfl, Nat.le_refl _, fun _ _ _ => rfl⟩
theorem Ch.trans {a b c : World} {S S' : Nat → Prop} (h : Ch a b S) (k : Ch b c S') (hS : ∀ i, i < a.heap.size → S' i → S i) : Ch a c S :=
 ⟨k.os.trans h.os, k.tape.trans h.tape, k.output.trans h.output, Nat.le_trans h.size k.size, fun i hi hn =>
  (k.block i (Nat.lt_of_lt_of_le hi h.size) (fun e => hn (hS i hi e))).trans (h.block i hi hn)⟩
theorem Ch.mono {w w' : World} {S S' : Nat → Prop} (h : Ch w w' S) (hS : ∀ i, i < w.heap.size → S i → S' i) : Ch w w' S' :=
 ⟨h.os, h.tape, h.output, h.size, fun i hi hn => h.block i hi (fun e => hn (hS i hi e))⟩
theorem Ch.below {w w' : World} {S : Nat → Prop} {B : Nat} (h : Ch w w' S) (hS : ∀ i, i < w.heap.size → S i → B ≤ i) (hB : B ≤ w.heap.size) : Below B w w' :=
 ⟨h.os, h.tape, h.output, h.size, fun k hk => h.block k (by omega) (fun e => by have := hS k (by omega) e; omega)⟩
theorem Ch.of_below {w w' : World} (h : Below w.heap.size w w') (S : Nat → Prop) : Ch w w' S :=
 ⟨h.os, h.tape, h.output, h.size, fun k hk _ => h.block k hk⟩
theorem Ch.cell {w w' : World} {S : Nat → Prop} (h : Ch w w' S) {p : Addr} {v : Value} (hc : w.cell? p = some v) (hn : ¬ S p.block) : w'.cell? p = some v :=
 (World.cell?_of_block (w := w) (h.block p.block (World.block_lt_of_cell? w p hc) hn)).trans hc
theorem Ch.alloc {a w : World} {S : Nat → Prop} (h : Ch a w S) (o : Obj) : Ch a (w.alloc o) S :=
 h.trans (S' := S) ⟨rfl, rfl, rfl, by simp, fun k hk _ => Below.heap_alloc _ _ _ hk⟩ (fun _ _ h => h)
theorem Ch.drew {a w : World} {S : Nat → Prop} (h : Ch a w S) : Ch a w.drew S := ⟨h.os, h.tape, h.output, h.size, h.block⟩
theorem Ch.setCell {a w : World} {S : Nat → Prop} (h : Ch a w S) {p : Addr} (hp : p.block < a.heap.size → S p.block) (u : Value) : Ch a (w.setCell p u) S :=
 h.trans (S' := fun k => k = p.block) ⟨rfl, rfl, rfl, by simp, fun k _ hn => Below.heap_setCell _ _ _ _ hn⟩ (fun i hi e => by subst e; exact hp hi)
theorem Below.at {B : Nat} {w w' : World} (h : Below B w w') {k : Nat} (hk : k < B) : w'.heap[k]? = w.heap[k]? := h.block k hk

/-! slices -/
structure SlAt (w : World) (sz : Nat) (a : Option Addr) (n c : Nat) (xs : List Value) : Prop where
 len : xs.length = n * sz
 le : n ≤ c
 max : c ≤ maxLen
 nil : a = none → c = 0
 cell : ∀ ad, a = some ad → ∀ i u, xs[i]? = some u → w.cell? (ad.add i) = some u
def Sl (w : World) (sz : Nat) (v : Value) (xs : List Value) : Prop := ∃ a n c, v = .slice a n c ∧ SlAt w sz a n c xs
def BS (w : World) (v : Value) (bs : List UInt8) : Prop := Sl w 1 v (bvs bs)
theorem SlAt.keep {w w' : World} {sz : Nat} {a : Option Addr} {n c : Nat} {xs : List Value} (h : SlAt w sz a n c xs)
    (hb : ∀ ad, a = some ad → ad.block < w.heap.size → w'.heap[ad.block]? = w.heap[ad.block]?) : SlAt w' sz a n c xs :=
 ⟨h.len, h.le, h.max, h.nil, fun ad had i u hu => by
  have hc := h.cell ad had i u hu
  have hlt := World.block_lt_of_cell? _ _ hc
  rw [add_block] at hlt
  exact (World.cell?_of_block (w := w) (a := ad.add i) (by rw [add_block]; exact hb ad had hlt)).trans hc⟩
theorem SlAt.below {w w' : World} {sz : Nat} {a : Option Addr} {n c : Nat} {xs : List Value} (h : SlAt w sz a n c xs) (hb : Below w.heap.size w w') : SlAt w' sz a n c xs :=
 h.keep fun _ _ hlt => hb.block _ hlt
theorem SlAt.ch {w w' : World} {S : Nat → Prop} {sz : Nat} {a : Option Addr} {n c : Nat} {xs : List Value} (h : SlAt w sz a n c xs) (hb : Ch w w' S) (hn : ∀ ad, a = some ad → ¬ S ad.block) : SlAt w' sz a n c xs :=
 h.keep fun ad had hlt => hb.block _ hlt (hn ad had)
theorem Sl.below {w w' : World} {sz : Nat} {v : Value} {xs : List Value} (h : Sl w sz v xs) (hb : Below w.heap.size w w') : Sl w' sz v xs := by
 obtain ⟨a, n, c, rfl, h⟩ := h; exact ⟨a, n, c, rfl, h.below hb⟩
theorem Sl.ch {w w' : World} {S : Nat → Prop} {sz : Nat} {v : Value} {xs : List Value} (h : Sl w sz v xs) (hb : Ch w w' S) (hn : ∀ k, v.ownBlock = some k → ¬ S k) : Sl w' sz v xs := by
 obtain ⟨a, n, c, rfl, h⟩ := h; exact ⟨a, n, c, rfl, h.ch hb fun ad had => by subst had; exact hn _ rfl⟩
theorem BS.below {w w' : World} {v : Value} {bs : List UInt8} (h : BS w v bs) (hb : Below w.heap.size w w') : BS w' v bs := Sl.below h hb
theorem BS.ch {w w' : World} {S : Nat → Prop} {v : Value} {bs : List UInt8} (h : BS w v bs) (hb : Ch w w' S) (hn : ∀ k, v.ownBlock = some k → ¬ S k) : BS w' v bs := Sl.ch h hb hn
theorem Sl.nil (w : World) (sz : Nat) : Sl w sz (.slice none 0 0) [] := ⟨none, 0, 0, rfl, by simp, Nat.le_refl _, Nat.zero_le _, fun _ => rfl, fun _ h => by cases h⟩
theorem BS.nil (w : World) : BS w (.slice none 0 0) [] := Sl.nil w 1
theorem SlAt.len1 {w : World} {a : Option Addr} {n c : Nat} {bs : List UInt8} (h : SlAt w 1 a n c (bvs bs)) : bs.length = n := by have := h.len; simpa using this
theorem SlAt.addr {w : World} {sz : Nat} {a : Option Addr} {n c : Nat} {xs : List Value} (h : SlAt w sz a n c xs) (hn : 0 < n) (hs : 0 < sz) :
    ∃ b o, a = some ⟨b, o, none⟩ ∧ ∀ i u, xs[i]? = some u → w.cell? ⟨b, o + i, none⟩ = some u := by
 have hl : 0 < xs.length := by rw [h.len]; exact Nat.mul_pos hn hs
 cases a with
 | none => have := h.nil rfl; have := h.le; omega
 | some ad =>
  have h0 := h.cell ad rfl 0 _ (List.getElem?_eq_getElem hl)
  have hsp : ad.spot = none := by
   unfold World.cell? at h0
   have e0 : ad.add 0 = ad := by simp [Addr.add]
   rw [e0] at h0
   cases hs : ad.spot with
   | none => rfl
   | some k =>
    simp only [hs, Option.isSome_some, if_true] at h0
    split at h0 <;> cases h0
  refine ⟨ad.block, ad.off, by cases ad; simp_all, fun i u hu => ?_⟩
  have := h.cell ad rfl i u hu
  have e : ad.add i = ⟨ad.block, ad.off + i, none⟩ := by
   unfold Addr.add; split
   ·cases ad; simp_all
   ·rfl
  rwa [e] at this
theorem SlAt.cut {w : World} {sz : Nat} {a : Option Addr} {n c : Nat} {xs : List Value} (h : SlAt w sz a n c xs) {lo hi : Nat} (h1 : lo ≤ hi) (h2 : hi ≤ n) :
    SlAt w sz (if c = lo then a else a.map (·.add (lo * sz))) (hi - lo) (c - lo) ((xs.take (hi * sz)).drop (lo * sz)) := by
 have hle := h.le
 have hm := h.max
 refine ⟨?_, by omega, by omega, ?_, ?_⟩
 ·rw [List.length_drop, List.length_take, h.len, Nat.sub_mul, Nat.min_eq_left (Nat.mul_le_mul_right _ h2)]
 ·intro e
  split at e
  ·omega
  ·have := h.nil (by simpa using e); omega
 ·intro ad had i u hu
  rw [List.getElem?_drop] at hu
  have hx : xs[lo * sz + i]? = some u := by
   rw [List.getElem?_take] at hu
   split at hu
   ·exact hu
   ·cases hu
  split at had
  ·rename_i hc
   have : lo = hi := by omega
   subst this
   have hl := (List.getElem?_eq_some_iff.1 hu).1
   rw [List.length_take, Nat.min_def] at hl
   split at hl <;> omega
  ·cases a with
   | none => simp at had
   | some a0 =>
    simp only [Option.map_some, Option.some.injEq] at had
    subst had
    rw [add_add]
    exact h.cell a0 rfl _ u hx

/-! rows that the call owns -/
def ownBlk : Value → Option Nat
 | .slice (some a) _ (_ + 1) => some a.block
 | _ => none
def Own (w : World) (B : Nat) (sz : Nat) (v : Value) (n : Nat) (xs : List Value) : Prop :=
 xs.length = n * sz ∧ ((∃ a, v = .slice a 0 0 ∧ n = 0) ∨
  ∃ g cap cur E lo hi, v = .slice (some ⟨g, 0, none⟩) n cap ∧ B ≤ g ∧ w.heap[g]? = some (.cells cur E (lo, hi)) ∧ (hi ≤ lo ∨ cur.size ≤ lo) ∧ n ≤ cap ∧ cap ≤ maxLen ∧ cur.size = cap * sz ∧ cur.toList.take (n * sz) = xs)
theorem Own.nil (w : World) (B : Nat) (sz : Nat) (a : Option Addr) : Own w B sz (.slice a 0 0) 0 [] := ⟨by simp, .inl ⟨a, rfl, rfl⟩⟩
theorem Own.sl {w : World} {B : Nat} {sz : Nat} {v : Value} {n : Nat} {xs : List Value} (h : Own w B sz v n xs) : Sl w sz v xs := by
 obtain ⟨hl, h⟩ := h
 rcases h with ⟨a, rfl, rfl⟩ | ⟨g, cap, cur, E', lo, hi, rfl, _, hg, _, hn, hm, hs, ht⟩
 ·have : xs = [] := List.eq_nil_of_length_eq_zero (by simpa using hl)
  subst this
  exact ⟨a, 0, 0, rfl, by simp, Nat.le_refl _, Nat.zero_le _, fun _ => rfl, fun _ _ i u h => by simp at h⟩
 ·refine ⟨_, _, _, rfl, hl, hn, hm, fun e => (Option.some_ne_none _ e).elim, fun ad had i u hu => ?_⟩
  obtain rfl := Option.some.inj had
  rw [Addr.add_lit, Nat.zero_add, cell_of_row w g i cur E' (lo, hi) hg]
  rw [← ht, List.getElem?_take] at hu
  split at hu
  ·simpa using hu
  ·cases hu
theorem Own.keep {w w' : World} {B : Nat} {sz : Nat} {v : Value} {n : Nat} {xs : List Value} (h : Own w B sz v n xs)
    (hb : ∀ k, ownBlk v = some k → k < w.heap.size → w'.heap[k]? = w.heap[k]?) : Own w' B sz v n xs := by
 obtain ⟨hl, h⟩ := h
 refine ⟨hl, ?_⟩
 rcases h with h | ⟨g, cap, cur, E', lo, hi, rfl, hB, hg, r⟩
 ·exact .inl h
 ·cases cap with
  | zero =>
   refine .inl ⟨some ⟨g, 0, none⟩, ?_, ?_⟩ <;> (have := r.2.1; simp_all)
  | succ c =>
   exact .inr ⟨g, c + 1, cur, E', lo, hi, rfl, hB, by rw [hb g rfl (Array.getElem?_eq_some_iff.1 hg).1]; exact hg, r⟩
theorem Own.below {w w' : World} {B : Nat} {sz : Nat} {v : Value} {n : Nat} {xs : List Value} (h : Own w B sz v n xs) (hb : Below w.heap.size w w') : Own w' B sz v n xs :=
 h.keep fun _ _ hlt => hb.block _ hlt
theorem Own.ch {w w' : World} {S : Nat → Prop} {B : Nat} {sz : Nat} {v : Value} {n : Nat} {xs : List Value} (h : Own w B sz v n xs) (hb : Ch w w' S) (hn : ∀ k, ownBlk v = some k → ¬ S k) : Own w' B sz v n xs :=
 h.keep fun k hk hlt => hb.block _ hlt (hn k hk)
theorem Own.mono {w : World} {B B' : Nat} {sz : Nat} {v : Value} {n : Nat} {xs : List Value} (h : Own w B sz v n xs) (hB : B' ≤ B) : Own w B' sz v n xs :=
 ⟨h.1, h.2.imp id fun ⟨g, cap, cur, E', lo, hi, h1, h2, h3⟩ => ⟨g, cap, cur, E', lo, hi, h1, Nat.le_trans hB h2, h3⟩⟩
theorem Own.lt {w : World} {B : Nat} {sz : Nat} {v : Value} {n : Nat} {xs : List Value} (h : Own w B sz v n xs) : ∀ k, ownBlk v = some k → k < w.heap.size := by
 intro k hk
 rcases h.2 with ⟨a, rfl, rfl⟩ | ⟨g, cap, cur, E', lo, hi, rfl, hB, hg, _⟩
 ·cases a <;> simp [ownBlk] at hk
 ·cases cap <;> simp [ownBlk] at hk
  subst hk
  exact (Array.getElem?_eq_some_iff.1 hg).1

/-! the types -/
structure SlTy (P : Program) (t E : TypeId) (sz bytes : Nat) (z : Value) : Prop where
 under : P.underlying t = some (.slice E)
 info : (P.info? E).map (fun i => (i.zero, i.size, i.bytes)) = some (some z, sz, bytes)
 zsz : z.cells.size = sz

section
variable {P : Program}
theorem wpList_op {ops : Array Oper} {rest : List Oper} {o : Oper} {a : Act} {w : World} {Q : Exit → Act → World → Prop} (hw : Region.wanted o (yielded ops a.tmps) = true)
    (h : o.wp P a w (wpList P ops Q rest) Q) : wpList P ops Q (o :: rest) a w := by
 unfold wpList; rw [if_pos hw]; exact .inl h
theorem wp_val {o : Oper} {a : Act} {w w' : World} {v : Value} {K : Act → World → Prop} {Q : Exit → Act → World → Prop} (h : (execOp a.eval o).run P w = .ok (.value v) w') (hK : K (a.put o.dst v) w') : o.wp P a w K Q := by
 unfold Oper.wp; rw [h]; exact hK

theorem Src.sl {sz : Nat} {tx e' : TypeId} {w : World} {xv : Value} {news : List Value} (hk : P.underlying tx = some (.slice e')) (h : Sl w sz xv news) (h1 : ∀ u ∈ news, u.oneCell' = true) : ∃ n, news.length = n * sz ∧ Src P sz tx xv n news w := by
 obtain ⟨a, n, c, rfl, h⟩ := h
 refine ⟨n, h.len, ?_⟩
 cases a with
 | none =>
  have hc := h.nil rfl
  have hle := h.le
  have hn : n = 0 := by omega
  subst hn
  have : news = [] := List.eq_nil_of_length_eq_zero (by simpa using h.len)
  subst this
  exact Src.ofNil w hk c
 | some ad => exact Src.ofSlice w hk ad n c news h.len (h.cell ad rfl) h1
theorem Src.bs {tx e' : TypeId} {w : World} {xv : Value} {bs : List UInt8} (hk : P.underlying tx = some (.slice e')) (h : BS w xv bs) : Src P 1 tx xv bs.length (bvs bs) w := by
 obtain ⟨n, hn, h⟩ := Src.sl hk h (bvs_one bs)
 have : n = bs.length := by simpa using hn.symm
 subst this; exact h
theorem heap_setCells_row (w : World) (g : Nat) (E : TypeId) (fz : Nat × Nat) : ∀ (vs : List Value) (o : Nat) (cur : Array Value), w.heap[g]? = some (.cells cur E fz) → o + vs.length ≤ cur.size →
    (w.setCells g o vs).heap[g]? = some (.cells (cur.toList.take o ++ vs ++ cur.toList.drop (o + vs.length)).toArray E fz) := by
 intro vs
 induction vs generalizing w with
 | nil => intro o cur hg _; simpa [World.setCells] using hg
 | cons v vs ih =>
  intro o cur hg hle
  simp only [List.length_cons] at hle
  have h1 : (w.setCell ⟨g, o, none⟩ v).heap[g]? = some (.cells (cur.setIfInBounds o v) E fz) := by
   simp [World.setCell, Array.getElem?_modify, hg]
  have h2 := ih (w.setCell ⟨g, o, none⟩ v) (o + 1) _ h1 (by simp; omega)
  simp only [World.setCells] at h2 ⊢
  rw [h2]
  congr 2
  apply Array.ext'
  simp only [Array.toList_setIfInBounds, List.length_cons]
  apply List.ext_getElem?
  intro i
  simp only [List.getElem?_append, List.length_append, List.length_take, List.length_set, List.getElem?_take, List.getElem?_drop, List.getElem?_set, List.length_cons, Array.length_toList]
  have hs : cur.toList.length = cur.size := by simp
  by_cases hi : i < o
  ·have a1 : i < min (o + 1) cur.size := by omega
   have a2 : i < min o cur.size := by omega
   have a3 : i < min (o + 1) cur.size + vs.length := by omega
   have a4 : i < min o cur.size + (vs.length + 1) := by omega
   have a5 : o ≠ i := by omega
   have a6 : i < o + 1 := by omega
   simp [a1, a2, a3, a4, a5, a6, hi]
  ·by_cases hio : i = o
   ·subst hio
    have a1 : i < min (i + 1) cur.size := by omega
    have a3 : i < min (i + 1) cur.size + vs.length := by omega
    have a2 : ¬ i < min i cur.size := by omega
    have a4 : i < min i cur.size + (vs.length + 1) := by omega
    have a5 : i < cur.size := by omega
    have a6 : i - min i cur.size = 0 := by omega
    simp [a1, a2, a3, a4, a5, a6]
   ·have e1 : min (o + 1) cur.size = o + 1 := by omega
    have e2 : min o cur.size = o := by omega
    rw [e1, e2]
    by_cases hin : i < o + 1 + vs.length
    ·have a1 : ¬ i < o + 1 := by omega
     have a2 : ¬ i < o := by omega
     have a4 : i < o + (vs.length + 1) := by omega
     have a5 : i - o = (i - (o + 1)) + 1 := by omega
     simp only [hin, a1, a2, a4, if_true, if_false, a5, List.getElem?_cons_succ]
    ·have a4 : ¬ i < o + (vs.length + 1) := by omega
     have a5 : ¬ o = o + 1 + vs.length + (i - (o + 1 + vs.length)) := by omega
     simp only [hin, a4, if_false, a5]
     congr 1; omega

theorem foldl_push (ns : List UInt8) : ∀ r : ByteArray, ((ns.map fun b => (b.toNat : Int)).foldl (fun r n => r.push (UInt8.ofNat n.toNat)) r) = ⟨(r.data.toList ++ ns).toArray⟩ := by
 induction ns with
 | nil => intro r; simp
 | cons n ns ih =>
  intro r
  simp only [List.map_cons, List.foldl_cons]
  rw [ih]
  congr 1
  apply Array.ext'
  simp [ByteArray.push]
def strOf (bs : List UInt8) : ByteArray := ⟨bs.toArray⟩
@[simp] theorem strOf_data (bs : List UInt8) : (strOf bs).data = bs.toArray := rfl
theorem strOf_size (bs : List UInt8) : (strOf bs).size = bs.length := by simp [ByteArray.size, strOf]
theorem strOf_toList (s : ByteArray) : strOf s.data.toList = s := by cases s; rfl
theorem strOf_inj {a b : List UInt8} (h : strOf a = strOf b) : a = b := by
 have := congrArg (fun s => s.data.toList) h
 simpa using this
theorem run_bytes_str {w : World} {S t E : TypeId} (hS : P.underlying S = some .string) (ht : P.underlying t = some (.slice E)) (hE : P.underlying E = some (.int .u8)) {v : Value} {bs : List UInt8} (h : BS w v bs) :
    (convert t S v).run P w = .ok (.string (strOf bs)) w := by
 obtain ⟨a, n, c, rfl, h⟩ := h
 rw [run_convert_bytes_string w t S E a n c ht hE hS]
 cases a with
 | none =>
  have hc := h.nil rfl
  have hle := h.le
  have hn := h.len1
  have : bs = [] := List.eq_nil_of_length_eq_zero (by omega)
  subst this
  simp [Conv.bytesToString, Sem.run_pure]; rfl
 | some ad =>
  have hn := h.len1
  have hl : (loadCells ad n).run P w = .ok ((bs.map fun b => (b.toNat : Int)).map (Value.int .u8)).toArray w := by
   rw [← hn]
   have := run_loadCells_list (P := P) w ad (bvs bs) (fun j u hu => h.cell ad rfl j u hu)
   simp only [bvs_length] at this
   rw [this]
   congr 2
   simp [bvs, bv, Function.comp_def]
  rw [run_bytesToString w ad n c _ hl, foldl_push]
  simp [strOf]
/-! structs and arrays in memory -/
structure AggTy (P : Program) (ty n : Nat) : Prop where
 agg : (match P.underlying ty with | some (.struct _) | some (.array _ _) => true | _ => false) = true
 size : (P.info? ty).map (·.size) = some n
theorem AggTy.isAgg {ty n : Nat} (T : AggTy P ty n) (w : World) : (isAgg ty).run P w = .ok true w := by
 have h := T.agg
 unfold Go.isAgg
 cases hu : P.underlying ty with
 | none => simp [hu] at h
 | some d => rw [Sem.run_bind, run_underlying hu w]; cases d <;> simp_all
theorem AggTy.sizeOf {ty n : Nat} (T : AggTy P ty n) (w : World) : (sizeOf ty).run P w = .ok n w := by
 have h := T.size
 cases hq : P.info? ty with
 | none => simp [hq] at h
 | some i =>
  have : i.size = n := by simpa [hq] using h
  simp [Go.sizeOf, typeInfo, hq, this]
theorem run_loadVar_at {ty n : Nat} (T : AggTy P ty n) {w : World} {ad : Addr} {cs : List Value} (hl : cs.length = n) (hc : ∀ j u, cs[j]? = some u → w.cell? (ad.add j) = some u) :
    (loadVar ty ad).run P w = .ok (.agg cs.toArray) w := by
 have h1 := run_loadCells_list (P := P) w ad cs hc
 rw [hl] at h1
 simp [loadVar, Sem.run_bind, T.isAgg, T.sizeOf, h1]
theorem cells_of_block {w : World} {g : Nat} {cur : Array Value} {E : TypeId} {fz : Nat × Nat} (hg : w.heap[g]? = some (.cells cur E fz)) : ∀ j u, cur.toList[j]? = some u → w.cell? ((⟨g, 0, none⟩ : Addr).add j) = some u := by
 intro j u hu
 rw [Addr.add_lit, Nat.zero_add, cell_of_row w g j cur E fz hg]; simpa using hu
theorem wpl_load_agg {w : World} {ops : Array Oper} {rest : List Oper} {o : Oper} {a : Act} {Q : Exit → Act → World → Prop} (hw : Region.wanted o (yielded ops a.tmps) = true) (ty : TypeId) (x : Operand) (ho : o.op = .load ty x) {n : Nat} (T : AggTy P ty n)
    (ad : Addr) (hx : a.eval x = .pointer (some ad)) {cs : List Value} (hl : cs.length = n) (hc : ∀ j u, cs[j]? = some u → w.cell? (ad.add j) = some u)
    (hK : wpList P ops Q rest (a.put o.dst (.agg cs.toArray)) w) : wpList P ops Q (o :: rest) a w := by
 refine wpList_op hw (wp_val ?_ hK)
 unfold execOp
 simp only [ho, hx, Instr.loadAt, Instr.sureAddr, Sem.run_bind, Sem.run_pure, Result.andThen_ok, run_loadVar_at T hl hc]
theorem setCells_ch (g : Nat) : ∀ (vs : List Value) (o : Nat) (w : World), Ch w (w.setCells g o vs) (fun k => k = g) ∧ (w.setCells g o vs).heap.size = w.heap.size
 | [], _, w => ⟨Ch.refl _ _, rfl⟩
 | v :: vs, o, w => by
  obtain ⟨h1, h2⟩ := setCells_ch g vs (o + 1) (w.setCell ⟨g, o, none⟩ v)
  exact ⟨((Ch.refl w (fun k => k = g)).setCell (p := ⟨g, o, none⟩) (fun _ => rfl) v).trans h1 (fun _ _ h => h), h2.trans (by simp)⟩
theorem run_storeVar_at {ty n : Nat} (hs : ∀ w : World, (sizeOf ty).run P w = .ok n w) {w : World} {g o : Nat} {cur : Array Value} {E : TypeId} {lo hi : Nat} (hg : w.heap[g]? = some (.cells cur E (lo, hi))) (hfz : hi ≤ lo ∨ cur.size ≤ lo)
    {v : Value} {cs : List Value} (hv : v.cells.toList = cs) (hl : cs.length = n) (ho : o + n ≤ cur.size) (h1 : ∀ u ∈ cs, u.oneCell' = true) :
    (storeVar ty ⟨g, o, none⟩ v).run P w = .ok () (w.setCells g o cs) := by
 have hst := run_storeCells_cells (P := P) g o cs 0 w (fun j hj => by rw [cell_of_row w g _ cur E (lo, hi) hg]; simp; omega)
  (fun j hj => by simp [World.frozen?, hg]; intro h; rcases hfz with h' | h' <;> omega) h1
 have hz : v.cells.size = n := by rw [← hl, ← hv]; simp
 simp only [Nat.add_zero] at hst
 simp [storeVar, Sem.run_bind, hs, hz, hv, hst]
theorem wpl_store {w : World} {ops : Array Oper} {rest : List Oper} {o : Oper} {a : Act} {Q : Exit → Act → World → Prop} (hw : Region.wanted o (yielded ops a.tmps) = true) (ty : TypeId) (x y : Operand) (hop : o.op = .store ty x y) {n : Nat} (hs : ∀ w : World, (sizeOf ty).run P w = .ok n w)
    (g off : Nat) (hx : a.eval x = .pointer (some ⟨g, off, none⟩)) (v : Value) (hy : a.eval y = v) {cs : List Value} (hv : v.cells.toList = cs) (hl : cs.length = n) {cur : Array Value} {E : TypeId} {lo hi : Nat} (hg : w.heap[g]? = some (.cells cur E (lo, hi))) (hfz : hi ≤ lo ∨ cur.size ≤ lo)
    (ho : off + n ≤ cur.size) (h1 : ∀ u ∈ cs, u.oneCell' = true)
    (hK : ∀ w', w'.heap[g]? = some (.cells (cur.toList.take off ++ cs ++ cur.toList.drop (off + n)).toArray E (lo, hi)) → Ch w w' (fun k => k = g) → w'.heap.size = w.heap.size → wpList P ops Q rest (a.put o.dst undef) w') : wpList P ops Q (o :: rest) a w := by
 have hrun := run_storeVar_at hs hg hfz hv hl ho h1
 obtain ⟨c1, c2⟩ := setCells_ch g cs off w
 have hrow := heap_setCells_row w g E (lo, hi) cs off cur hg (by omega)
 rw [hl] at hrow
 refine wpList_op hw ?_
 unfold Oper.wp execOp
 simp only [hop, hx, hy, Instr.storeAt, Instr.sureAddr, Sem.run_bind, Sem.run_pure, Result.andThen_ok, hrun]
 exact hK _ hrow c1 c2
theorem wpl_store_all {w : World} {ops : Array Oper} {rest : List Oper} {o : Oper} {a : Act} {Q : Exit → Act → World → Prop} (hw : Region.wanted o (yielded ops a.tmps) = true) (ty : TypeId) (x y : Operand) (hop : o.op = .store ty x y) {n : Nat} (hs : ∀ w : World, (sizeOf ty).run P w = .ok n w)
    (g : Nat) (hx : a.eval x = .pointer (some ⟨g, 0, none⟩)) (v : Value) (hy : a.eval y = v) {cs : List Value} (hv : v.cells.toList = cs) (hl : cs.length = n) {cur : Array Value} {E : TypeId} {lo hi : Nat} (hg : w.heap[g]? = some (.cells cur E (lo, hi))) (hfz : hi ≤ lo ∨ cur.size ≤ lo)
    (ho : cur.size = n) (h1 : ∀ u ∈ cs, u.oneCell' = true)
    (hK : ∀ w', w'.heap[g]? = some (.cells cs.toArray E (lo, hi)) → Ch w w' (fun k => k = g) → w'.heap.size = w.heap.size → wpList P ops Q rest (a.put o.dst undef) w') : wpList P ops Q (o :: rest) a w :=
 wpl_store hw ty x y hop hs g 0 hx v hy hv hl hg hfz (by omega) h1 fun w' h2 h3 h4 => hK w' (by
  rw [h2]
  have : cur.toList.drop (0 + n) = [] := List.drop_eq_nil_of_le (by simp [ho])
  rw [this]; simp) h3 h4
theorem wpl_run {w w' : World} {ops : Array Oper} {rest : List Oper} {o : Oper} {a : Act} {Q : Exit → Act → World → Prop} (hw : Region.wanted o (yielded ops a.tmps) = true) (v : Value) (hrun : (execOp a.eval o).run P w = .ok (.value v) w')
    (hK : wpList P ops Q rest (a.put o.dst v) w') : wpList P ops Q (o :: rest) a w := wpList_op hw (wp_val hrun hK)
theorem wpl_skip {w w' : World} {ops : Array Oper} {rest : List Oper} {o : Oper} {a : Act} {Q : Exit → Act → World → Prop} (hw : Region.wanted o (yielded ops a.tmps) = true) (hrun : (execOp a.eval o).run P w = .ok .skip w')
    (hK : wpList P ops Q rest (a.put o.dst undef) w') : wpList P ops Q (o :: rest) a w := by
 refine wpList_op hw ?_
 unfold Oper.wp; rw [hrun]; exact hK
theorem wpl_build {w : World} {ops : Array Oper} {rest : List Oper} {o : Oper} {a : Act} {Q : Exit → Act → World → Prop} (hw : Region.wanted o (yielded ops a.tmps) = true) (t : TypeId) (parts : List (Nat × Operand)) (ho : o.op = .build t parts.toArray) (ps : List (Nat × Value)) (hp : parts.map (fun p => (p.1, a.eval p.2)) = ps) (v : Value)
    (hrun : (Instr.build t ps.toArray).run P w = .ok v w) (hK : wpList P ops Q rest (a.put o.dst v) w) : wpList P ops Q (o :: rest) a w := by
 refine wpl_run hw v ?_ hK
 subst hp
 unfold execOp
 simp only [ho, List.map_toArray]
 simp only [Sem.run_bind, Sem.run_pure, Result.andThen_ok, hrun]
theorem wpl_alloc {w : World} {ops : Array Oper} {rest : List Oper} {o : Oper} {a : Act} {Q : Exit → Act → World → Prop} (hw : Region.wanted o (yielded ops a.tmps) = true) (t : TypeId) (ho : o.op = .alloc t) (cs : Array Value)
    (hrun : (Instr.alloc t true (.tuple #[])).run P w = .ok (.pointer (some ⟨w.heap.size, 0, none⟩)) (w.alloc (.cells cs t)))
    (hK : wpList P ops Q rest (a.put o.dst (.pointer (some ⟨w.heap.size, 0, none⟩))) (w.alloc (.cells cs t))) : wpList P ops Q (o :: rest) a w := by
 refine wpl_run hw _ ?_ hK
 unfold execOp
 simp only [ho, Sem.run_bind, Sem.run_pure, Result.andThen_ok, hrun]
theorem results_c {fn : Func} {p : Tmp} {ty : TypeId} (h : fn.results = #[.cell p ty]) {tmps : Array Value} {w : World} {ad : Addr} {v : Value} (hp : tmps.getD p undef = .pointer (some ad)) (hv : (loadVar ty ad).run P w = .ok v w) :
    (results fn tmps).run P w = .ok v w := by
 have hp' : tmps[p]?.getD undef = .pointer (some ad) := by simpa using hp
 simp [results, h, hp', asAddr, hv]
/-! slicing -/
def isBound (o : Option Value) (d x : Nat) : Prop := (o = none ∧ x = d) ∨ ∃ k, o = some (.int k (x : Int))
theorem run_slice_at {t E : TypeId} {sz bytes : Nat} {z : Value} (T : SlTy P t E sz bytes z) {a : Option Addr} {n c l h : Nat} {lo hi : Option Value} (hl : isBound lo 0 l) (hh : isBound hi n h) (h1 : l ≤ h) (h2 : h ≤ c) (w : World) :
    (Instr.sliceAt t (.slice a n c) lo hi none).run P w = .ok (.slice (if c = l then a else a.map (·.add (l * sz))) (h - l) (c - l)) w := by
 obtain ⟨i, hi', hz, hsz, hby⟩ := info_parts T.info
 subst hsz
 rcases hl with ⟨rfl, rfl⟩ | ⟨k, rfl⟩ <;> rcases hh with ⟨rfl, rfl⟩ | ⟨k', rfl⟩ <;>
  simp [Instr.sliceAt, Instr.slice, Instr.sliceBounds, Instr.sliceBound, asIntOf, run_underlying T.under, Sem.run_bind, Go.sizeOf, typeInfo, hi', h1, h2]
theorem exec_move {o : Oper} {ρ : Operand → Value} {x : Operand} {w : World} (ho : o.op = .move x) {v : Value} (hv : ρ x = v) : (execOp ρ o).run P w = .ok (.value v) w := by
 unfold execOp; simp only [ho, hv, Sem.run_pure]
theorem exec_assign {o : Oper} {ρ : Operand → Value} {x : Operand} {w : World} (ho : o.op = .assign x) {v : Value} (hv : ρ x = v) : (execOp ρ o).run P w = .ok (.value v) w := by
 unfold execOp; simp only [ho, hv, Sem.run_pure]
theorem exec_load {o : Oper} {ρ : Operand → Value} {x : Operand} {w : World} {ty : TypeId} (ho : o.op = .load ty x) {ad : Addr} (hx : ρ x = .pointer (some ad)) {v : Value} (hv : (loadVar ty ad).run P w = .ok v w) : (execOp ρ o).run P w = .ok (.value v) w := by
 unfold execOp; simp only [ho, hx, Instr.loadAt, Instr.sureAddr, Sem.run_bind, Sem.run_pure, Result.andThen_ok, hv]
theorem exec_store {o : Oper} {ρ : Operand → Value} {x y : Operand} {w w' : World} {ty : TypeId} (ho : o.op = .store ty x y) {ad : Addr} (hx : ρ x = .pointer (some ad)) {v : Value} (hy : ρ y = v) (hv : (storeVar ty ad v).run P w = .ok () w') : (execOp ρ o).run P w = .ok .skip w' := by
 unfold execOp; simp only [ho, hx, hy, Instr.storeAt, Instr.sureAddr, Sem.run_bind, Sem.run_pure, Result.andThen_ok, hv]
theorem exec_toArray {o : Oper} {ρ : Operand → Value} {x : Operand} {w : World} {t E : TypeId} {n m c : Nat} {a : Option Addr} (ho : o.op = .sliceToArrayPointer t x) (hu : P.underlying t = some (.array n E)) (hx : ρ x = .slice a m c) (hm : n ≤ m) : (execOp ρ o).run P w = .ok (.value (.pointer a)) w := by
 unfold execOp
 simp [ho, hx, Instr.arrayAt, Sem.run_bind, run_underlying hu, show ¬ m < n by omega]
end
end Go.Proofs.YtmjpbmcbcppkfaaGreatDoor
namespace Go.Proofs.YtmjpbmcbcppkfaaGreatDoor
def laidG : Nat → Option (List Value)
 | 2 => some [.int .u32 0, .int .u32 498536548, .int .u32 997073096, .int .u32 651767980, .int .u32 1994146192, .int .u32 1802195444, .int .u32 1303535960, .int .u32 1342533948, .int .u32 3988292384, .int .u32 4027552580, .int .u32 3604390888, .int .u32 3412177804, .int .u32 2607071920, .int .u32 2262029012, .int .u32 2685067896, .int .u32 3183342108]
 | _ => none
theorem laidG_ne {g : Nat} {cs : List Value} (h : laidG g = some cs) : cs ≠ [] := by
 unfold laidG at h
 split at h
 ·cases h; simp
 ·cases h
end Go.Proofs.YtmjpbmcbcppkfaaGreatDoor
