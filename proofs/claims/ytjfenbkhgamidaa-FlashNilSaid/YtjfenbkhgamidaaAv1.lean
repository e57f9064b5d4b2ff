/- Abstract values for the walks: what a value of the model stands for, whatever the addresses; when that stays so in another world. Conditions: none. -/
import Derived.Test.YtjfenbkhgamidaaLb
namespace Go.Proofs.Ytjfenbkhgamidaa
set_option linter.unusedVariables false
/-- abstract values: 'sl', 'bs': a slice by what it holds, in a zone that nobody writes; 'own': a slice of a row that is followed; 'ref': a pointer into such a row; 'cp': a pointer to cells of a zone; 'gd': known under a condition -/
inductive AV : Type 1 where
  | any
  | val (v : Value)
  | agg (l : List AV)
  | tup (l : List AV)
  | bs (z : Nat) (l : List UInt8)
  | sl (z sz : Nat) {α : Type} (f : α → List AV) (d : α) (l : List α)
  | own (r ver sz off n : Nat)
  | ref (r ver sz i j : Nat)
  | cp (z : Nat) (cells : List AV) (j : Nat)
  | clo (f : FuncId) (caps : List AV)
  | gd (φ : Prop) (x : AV)

inductive Bd : Type 1 where
  | dead
  | bytes (l : List UInt8)
  | row (sz : Nat) {α : Type} (f : α → List AV) (d : α) (l : List α)
  | obj (l : List AV)
structure Ent : Type 1 where
  ver : Nat
  bd : Bd

structure Env where
  ρ : Nat → Nat
  ver : Nat → Nat
  zone : Nat → Nat → Prop
  abs : Nat → Prop

mutual
def rep (E : Env) (w : World) : AV → Value → Prop
  | .any, _ => True
  | .val u, v => v = u
  | .agg l, v => ∃ cs : List Value, v = .agg cs.toArray ∧ reps E w l cs
  | .tup l, v => ∃ cs : List Value, v = .tuple cs.toArray ∧ reps E w l cs
  | .bs z l, v => ∃ a n c, v = .slice a n c ∧ n = l.length ∧ n ≤ c ∧ c ≤ maxLen ∧ (a = none → c = 0) ∧
      ∀ (i : Nat) (x : UInt8), l[i]? = some x → ∃ b o, a = some ⟨b, o, none⟩ ∧ E.zone z b ∧ w.cell? ⟨b, o + i, none⟩ = some (bv x)
  | .sl z sz (α := α) f _ l, v => ∃ a n c, v = .slice a n c ∧ n = l.length ∧ n ≤ c ∧ c ≤ maxLen ∧ (a = none → c = 0) ∧
      ∀ (i : Nat) (x : α), l[i]? = some x → ∃ b o cs, a = some ⟨b, o, none⟩ ∧ E.zone z b ∧ cs.length = sz ∧ reps E w (f x) cs ∧ ∀ j u, cs[j]? = some u → w.cell? ⟨b, o + i * sz + j, none⟩ = some u
  | .own r ver sz off n, v => ver ≤ E.ver r ∧ (ver = E.ver r → ∃ a c, v = .slice a n c ∧ n ≤ c ∧ c ≤ maxLen ∧ (a = none → c = 0) ∧ (c = 0 ∨ ¬ E.abs r ∧ a = some ⟨E.ρ r, off * sz, none⟩ ∧ ∃ cur T fz, w.heap[E.ρ r]? = some (.cells cur T fz) ∧ (off + c) * sz ≤ cur.size))
  | .ref r ver sz i j, v => ver ≤ E.ver r ∧ (ver = E.ver r → v = .pointer (some ⟨E.ρ r, i * sz + j, none⟩))
  | .cp z cells j, v => ∃ b o cs, v = .pointer (some ⟨b, o + j, none⟩) ∧ E.zone z b ∧ reps E w cells cs ∧ ∀ j u, cs[j]? = some u → w.cell? ⟨b, o + j, none⟩ = some u
  | .clo f caps, v => ∃ cs : List Value, v = .func (.func f) #[] cs.toArray ∧ reps E w caps cs
  | .gd φ x, v => (φ → rep E w x v) ∧ (¬ φ → v = undef)
def reps (E : Env) (w : World) : List AV → List Value → Prop
  | [], vs => vs = []
  | x :: xs, vs => ∃ v vs', vs = v :: vs' ∧ rep E w x v ∧ reps E w xs vs'
end

theorem reps_get {E : Env} {w : World} : ∀ {xs : List AV} {vs : List Value}, reps E w xs vs → xs.length = vs.length ∧ ∀ (i : Nat) (x : AV), xs[i]? = some x → ∃ v, vs[i]? = some v ∧ rep E w x v
  | [], vs, h => by rw [reps] at h; subst h; simp
  | x :: xs, vs, h => by
    rw [reps] at h
    obtain ⟨v, vs', rfl, h1, h2⟩ := h
    obtain ⟨h3, h4⟩ := reps_get h2
    refine ⟨by simp [h3], fun i y hy => ?_⟩
    cases i with
    | zero => simp at hy; subst hy; exact ⟨v, rfl, h1⟩
    | succ i => simpa using h4 i y (by simpa using hy)
theorem reps_of {E : Env} {w : World} : ∀ {xs : List AV} {vs : List Value}, xs.length = vs.length → (∀ (i : Nat) (x : AV) (v : Value), xs[i]? = some x → vs[i]? = some v → rep E w x v) → reps E w xs vs
  | [], vs, hl, _ => by rw [reps]; exact List.eq_nil_of_length_eq_zero (by simpa using hl.symm)
  | x :: xs, [], hl, _ => by simp at hl
  | x :: xs, v :: vs, hl, h => by
    rw [reps]
    exact ⟨v, vs, rfl, h 0 x v rfl rfl, reps_of (by simpa using hl) (fun i y u hy hu => h (i + 1) y u (by simpa using hy) (by simpa using hu))⟩

/-- what becomes of the addresses and the worlds such that what is known stays known -/
structure Ext (E E' : Env) (w w' : World) : Prop where
  ver : ∀ r, E.ver r ≤ E'.ver r
  rho : ∀ r, E'.ver r = E.ver r → E'.ρ r = E.ρ r
  abs : ∀ r, E'.ver r = E.ver r → (E'.abs r ↔ E.abs r)
  zone : ∀ z b, E.zone z b → E'.zone z b
  cell : ∀ z b, E.zone z b → w'.heap[b]? = w.heap[b]?
  row : ∀ r, E'.ver r = E.ver r → ∀ cur T fz, w.heap[E.ρ r]? = some (.cells cur T fz) → ∃ cur' T' fz', w'.heap[E.ρ r]? = some (.cells cur' T' fz') ∧ cur.size ≤ cur'.size
theorem Ext.refl (E : Env) (w : World) : Ext E E w w := ⟨fun _ => Nat.le_refl _, fun _ _ => rfl, fun _ _ => Iff.rfl, fun _ _ h => h, fun _ _ _ => rfl, fun _ _ cur T fz h => ⟨cur, T, fz, h, Nat.le_refl _⟩⟩
theorem Ext.trans {E E' E'' : Env} {w w' w'' : World} (h : Ext E E' w w') (k : Ext E' E'' w' w'') : Ext E E'' w w'' := by
  have hv : ∀ r, E''.ver r = E.ver r → E'.ver r = E.ver r ∧ E''.ver r = E'.ver r := fun r e => by have := h.ver r; have := k.ver r; omega
  refine ⟨fun r => Nat.le_trans (h.ver r) (k.ver r), fun r e => (k.rho r (hv r e).2).trans (h.rho r (hv r e).1), fun r e => (k.abs r (hv r e).2).trans (h.abs r (hv r e).1), fun z b hz => k.zone z b (h.zone z b hz), fun z b hz => (k.cell z b (h.zone z b hz)).trans (h.cell z b hz), fun r e cur T fz hc => ?_⟩
  obtain ⟨cur', T', fz', h1, h2⟩ := h.row r (hv r e).1 cur T fz hc
  obtain ⟨cur'', T'', fz'', h3, h4⟩ := k.row r (hv r e).2 cur' T' fz' (by rw [h.rho r (hv r e).1]; exact h1)
  exact ⟨cur'', T'', fz'', by rw [h.rho r (hv r e).1] at h3; exact h3, Nat.le_trans h2 h4⟩

theorem World.cell_of_heap {w w' : World} {b o : Nat} (h : w'.heap[b]? = w.heap[b]?) : w'.cell? ⟨b, o, none⟩ = w.cell? ⟨b, o, none⟩ := World.cell?_of_block (w := w) (a := ⟨b, o, none⟩) h
mutual
theorem rep_ext {E E' : Env} {w w' : World} (X : Ext E E' w w') : ∀ (x : AV) (v : Value), rep E w x v → rep E' w' x v
  | .any, _, _ => by rw [rep]; trivial
  | .val u, v, h => by rw [rep] at h ⊢; exact h
  | .agg l, v, h => by
    rw [rep] at h ⊢
    obtain ⟨cs, rfl, h⟩ := h
    exact ⟨cs, rfl, reps_ext X l cs h⟩
  | .tup l, v, h => by
    rw [rep] at h ⊢
    obtain ⟨cs, rfl, h⟩ := h
    exact ⟨cs, rfl, reps_ext X l cs h⟩
  | .bs z l, v, h => by
    rw [rep] at h ⊢
    obtain ⟨a, n, c, rfl, h1, h2, h3, h4, h5⟩ := h
    refine ⟨a, n, c, rfl, h1, h2, h3, h4, fun i x hx => ?_⟩
    obtain ⟨b, o, h6, h7, h8⟩ := h5 i x hx
    exact ⟨b, o, h6, X.zone z b h7, (World.cell_of_heap (X.cell z b h7)).trans h8⟩
  | .sl z sz f d l, v, h => by
    rw [rep] at h ⊢
    obtain ⟨a, n, c, rfl, h1, h2, h3, h4, h5⟩ := h
    refine ⟨a, n, c, rfl, h1, h2, h3, h4, fun i x hx => ?_⟩
    obtain ⟨b, o, cs, h6, h7, h8, h9, h10⟩ := h5 i x hx
    exact ⟨b, o, cs, h6, X.zone z b h7, h8, reps_ext X (f x) cs h9, fun j u hu => (World.cell_of_heap (X.cell z b h7)).trans (h10 j u hu)⟩
  | .own r ver sz off n, v, h => by
    rw [rep] at h ⊢
    obtain ⟨h0, h⟩ := h
    refine ⟨Nat.le_trans h0 (X.ver r), fun e => ?_⟩
    have e1 : E'.ver r = E.ver r := by have := X.ver r; omega
    obtain ⟨a, c, rfl, h1, h2, h3, h4⟩ := h (by omega)
    refine ⟨a, c, rfl, h1, h2, h3, h4.imp id fun ⟨h50, h5, cur, T, fz, h6, h7⟩ => ?_⟩
    obtain ⟨cur', T', fz', h8, h9⟩ := X.row r e1 cur T fz h6
    rw [X.rho r e1]
    exact ⟨fun q => h50 ((X.abs r e1).1 q), h5, cur', T', fz', h8, Nat.le_trans h7 h9⟩
  | .ref r ver sz i j, v, h => by
    rw [rep] at h ⊢
    obtain ⟨h0, h⟩ := h
    refine ⟨Nat.le_trans h0 (X.ver r), fun e => ?_⟩
    have e1 : E'.ver r = E.ver r := by have := X.ver r; omega
    rw [X.rho r e1]
    exact h (by omega)
  | .cp z cells j, v, h => by
    rw [rep] at h ⊢
    obtain ⟨b, o, cs, rfl, h7, h9, h10⟩ := h
    exact ⟨b, o, cs, rfl, X.zone z b h7, reps_ext X cells cs h9, fun j u hu => (World.cell_of_heap (X.cell z b h7)).trans (h10 j u hu)⟩
  | .clo f caps, v, h => by
    rw [rep] at h ⊢
    obtain ⟨cs, rfl, h⟩ := h
    exact ⟨cs, rfl, reps_ext X caps cs h⟩
  | .gd φ x, v, h => by
    rw [rep] at h ⊢
    exact ⟨fun p => rep_ext X x v (h.1 p), h.2⟩
theorem reps_ext {E E' : Env} {w w' : World} (X : Ext E E' w w') : ∀ (xs : List AV) (vs : List Value), reps E w xs vs → reps E' w' xs vs
  | [], vs, h => by rw [reps] at h ⊢; exact h
  | x :: xs, vs, h => by
    rw [reps] at h ⊢
    obtain ⟨v, vs', rfl, h1, h2⟩ := h
    exact ⟨v, vs', rfl, rep_ext X x v h1, reps_ext X xs vs' h2⟩
end

/-! rows -/
def Bd.at : Bd → Nat → Option (List AV)
  | .dead, _ => none
  | .bytes l, i => (l[i]?).map fun b => [.val (bv b)]
  | .row _ f _ l, i => (l[i]?).map f
  | .obj l, i => if i = 0 then some l else none
def Bd.sz : Bd → Nat
  | .dead => 0
  | .bytes _ => 1
  | .row sz _ _ _ => sz
  | .obj l => l.length
def Bd.count : Bd → Nat
  | .dead => 0
  | .bytes l => l.length
  | .row _ _ _ l => l.length
  | .obj _ => 1
def Bd.live : Bd → Bool
  | .dead => false
  | _ => true
theorem Bd.at_lt {b : Bd} {i : Nat} {ys : List AV} (h : b.at i = some ys) : i < b.count := by
  cases b with
  | dead => simp [Bd.at] at h
  | bytes l =>
    simp only [Bd.at, Option.map_eq_some_iff] at h
    obtain ⟨x, hx, _⟩ := h
    exact (List.getElem?_eq_some_iff.1 hx).1
  | row sz f d l =>
    simp only [Bd.at, Option.map_eq_some_iff] at h
    obtain ⟨x, hx, _⟩ := h
    exact (List.getElem?_eq_some_iff.1 hx).1
  | obj l =>
    simp only [Bd.at] at h
    split at h
    · simp [Bd.count]; assumption
    · cases h
/-- what a row's block holds -/
structure EntRep (E : Env) (w : World) (b : Nat) (bd : Bd) : Prop where
  blk : bd.live = true → ∃ cur T lo hi, w.heap[b]? = some (.cells cur T (lo, hi)) ∧ (hi ≤ lo ∨ cur.size ≤ lo) ∧ bd.count * bd.sz ≤ cur.size ∧
    ∀ i ys, bd.at i = some ys → ∃ cs, cs.length = bd.sz ∧ reps E w ys cs ∧ ∀ j u, cs[j]? = some u → cur[i * bd.sz + j]? = some u
theorem EntRep.ext {E E' : Env} {w w' : World} {b : Nat} {bd : Bd} (X : Ext E E' w w') (h : EntRep E w b bd) (hb : w'.heap[b]? = w.heap[b]?) : EntRep E' w' b bd :=
  ⟨fun hl => by
    obtain ⟨cur, T, lo, hi, h1, h2, h3, h4⟩ := h.blk hl
    exact ⟨cur, T, lo, hi, hb.trans h1, h2, h3, fun i ys hy => by
      obtain ⟨cs, h5, h6, h7⟩ := h4 i ys hy
      exact ⟨cs, h5, reps_ext X ys cs h6, h7⟩⟩⟩
/-- a row that has a block -/
def Liv (E : Env) (r : Nat) (e : Ent) : Prop := e.bd.live = true ∧ ¬ E.abs r
structure HR (E : Env) (w : World) (H : List Ent) : Prop where
  ver : ∀ (r : Nat) (e : Ent), H[r]? = some e → E.ver r = e.ver
  ent : ∀ (r : Nat) (e : Ent), H[r]? = some e → Liv E r e → EntRep E w (E.ρ r) e.bd
  abs : ∀ (r : Nat) (e : Ent), H[r]? = some e → E.abs r → e.bd.count = 0
  inj : ∀ (r r' : Nat) (e e' : Ent), H[r]? = some e → H[r']? = some e' → Liv E r e → Liv E r' e' → E.ρ r = E.ρ r' → r = r'
  zlt : ∀ z b, E.zone z b → b < w.heap.size
  zrow : ∀ (r : Nat) (e : Ent), H[r]? = some e → Liv E r e → ∀ z, ¬ E.zone z (E.ρ r)
  top : ∀ r, H.length ≤ r → E.ver r = 0 ∧ ¬ E.abs r
theorem HR.lt {E : Env} {w : World} {H : List Ent} (h : HR E w H) {r : Nat} {e : Ent} (hr : H[r]? = some e) (hl : Liv E r e) : E.ρ r < w.heap.size := by
  obtain ⟨cur, T, lo, hi, h1, _⟩ := (h.ent r e hr hl).blk hl.1
  exact (Array.getElem?_eq_some_iff.1 h1).1
/-- what the call may have changed: nothing that is kept -/
structure Fr (w0 : World) (keep : Nat → Prop) (E : Env) (H : List Ent) (w : World) : Prop where
  os : w.os = w0.os
  tape : w.tape = w0.tape
  output : w.output = w0.output
  size : w0.heap.size ≤ w.heap.size
  block : ∀ k, k < w0.heap.size → keep k → w.heap[k]? = w0.heap[k]?
  grow : ∀ (k : Nat) cur T fz, w0.heap[k]? = some (.cells cur T fz) → ∃ cur' T' fz', w.heap[k]? = some (.cells cur' T' fz') ∧ cur.size ≤ cur'.size
  rows : ∀ (r : Nat) (e : Ent), H[r]? = some e → Liv E r e → E.ρ r < w0.heap.size → ¬ keep (E.ρ r)
end Go.Proofs.Ytjfenbkhgamidaa
