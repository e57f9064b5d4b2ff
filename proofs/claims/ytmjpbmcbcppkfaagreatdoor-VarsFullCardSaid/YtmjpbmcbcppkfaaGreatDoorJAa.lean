/- Abstract values, and what each operation makes of them. Conditions: none. -/
import Derived.Test.YtmjpbmcbcppkfaaGreatDoorJHb
import Derived.Laws.Small
import Derived.Laws.Pointers
import Derived.Great.BuildSlice
/-! Abstract values for the walks: what a value of the model stands for, whatever the addresses; when that stays so in another world. Conditions: none. -/
namespace Go.Proofs.YtmjpbmcbcppkfaaGreatDoor
set_option linter.unusedVariables false
set_option linter.unusedSimpArgs false
inductive AV : Type 1 where
 | any
 | val (v : Value)
 | agg (l : List AV)
 | tup (l : List AV)
 | bs (z : Nat) (l : List UInt8)
 | sl (z sz : Nat) {α : Type} (f : α → List AV) (d : α) (l : List α)
 | own (r ver sz off n : Nat)
 | ref (r ver sz i j : Nat)
 | cp (z : Nat) (cells : List AV) (j : Nat)
 | clo (f : FuncId) (caps : List AV)
 | yld (r ver : Nat)
 | mth (f : FuncId) (first : List AV)
 | ifc (t : TypeId) (x : AV)
 | mp (r ver : Nat)
 | pl (r ver i off n : Nat)
 | plr (r ver i k : Nat)
 | gd (φ : Prop) (x : AV)

structure LpI where
 l : Nat
 tv : Array Value
 ks : List Nat
 ps : Array Tmp
 asn : Code
 body : Code
inductive Bd : Type 1 where
 | dead
 | bytes (l : List UInt8)
 | row (sz : Nat) {α : Type} (f : α → List AV) (d : α) (l : List α)
 | obj (l : List AV)
 | lp (i : LpI) (tR : List AV) (st : Option Code)
 | pool (ls : List (List UInt8))
structure Ent : Type 1 where
 ver : Nat
 bd : Bd

structure Env where
 ρ : Nat → Nat
 ver : Nat → Nat
 zone : Nat → Nat → Prop
 abs : Nat → Prop
 pl : Nat → Nat → Option Nat

mutual
def rep (E : Env) (w : World) : AV → Value → Prop
 | .any, _ => True
 | .val u, v => v = u
 | .agg l, v => ∃ cs : List Value, v = .agg cs.toArray ∧ reps E w l cs
 | .tup l, v => ∃ cs : List Value, v = .tuple cs.toArray ∧ reps E w l cs
 | .bs z l, v => ∃ a n c, v = .slice a n c ∧ n = l.length ∧ n ≤ c ∧ c ≤ maxLen ∧ (a = none → c = 0) ∧
     ∀ (i : Nat) (x : UInt8), l[i]? = some x → ∃ b o, a = some ⟨b, o, none⟩ ∧ E.zone z b ∧ w.cell? ⟨b, o + i, none⟩ = some (bv x)
 | .sl z sz (α := α) f _ l, v => ∃ a n c, v = .slice a n c ∧ n = l.length ∧ n ≤ c ∧ c ≤ maxLen ∧ (a = none → c = 0) ∧
     ∀ (i : Nat) (x : α), l[i]? = some x → ∃ b o cs, a = some ⟨b, o, none⟩ ∧ E.zone z b ∧ cs.length = sz ∧ reps E w (f x) cs ∧ ∀ j u, cs[j]? = some u → w.cell? ⟨b, o + i * sz + j, none⟩ = some u
 | .own r ver sz off n, v => ver ≤ E.ver r ∧ (ver = E.ver r → ∃ a c, v = .slice a n c ∧ n ≤ c ∧ c ≤ maxLen ∧ (a = none → c = 0) ∧ (c = 0 ∨ ¬ E.abs r ∧ a = some ⟨E.ρ r, off * sz, none⟩ ∧ ∃ cur T fz, w.heap[E.ρ r]? = some (.cells cur T fz) ∧ (off + c) * sz ≤ cur.size))
 | .ref r ver sz i j, v => ver ≤ E.ver r ∧ (ver = E.ver r → v = .pointer (some ⟨E.ρ r, i * sz + j, none⟩))
 | .cp z cells j, v => ∃ b o cs, v = .pointer (some ⟨b, o + j, none⟩) ∧ E.zone z b ∧ reps E w cells cs ∧ ∀ j u, cs[j]? = some u → w.cell? ⟨b, o + j, none⟩ = some u
 | .clo f caps, v => ∃ cs : List Value, v = .func (.func f) #[] cs.toArray ∧ reps E w caps cs
 | .yld r ver, v => ver ≤ E.ver r ∧ (ver = E.ver r → v = .func (.yield (E.ρ r)) #[] #[])
 | .mth f l, v => ∃ cs : List Value, v = .func (.func f) cs.toArray #[] ∧ reps E w l cs
 | .ifc t x, v => ∃ u, v = .iface t u ∧ rep E w x u
 | .mp r ver, v => ver ≤ E.ver r ∧ (ver = E.ver r → v = .map (some (E.ρ r)))
 | .pl r ver i off n, v => ver ≤ E.ver r ∧ (ver = E.ver r → ∃ a c, v = .slice a n c ∧ n ≤ c ∧ c ≤ maxLen ∧ (a = none → c = 0) ∧ (n = 0 ∨ ∃ b, E.pl r i = some b ∧ a = some ⟨b, off, none⟩ ∧ ∃ cur T fz, w.heap[b]? = some (.cells cur T fz) ∧ off + n ≤ cur.size))
 | .plr r ver i k, v => ver ≤ E.ver r ∧ (ver = E.ver r → ∃ b, E.pl r i = some b ∧ v = .pointer (some ⟨b, k, none⟩))
 | .gd φ x, v => (φ → rep E w x v) ∧ (¬ φ → v = undef)
def reps (E : Env) (w : World) : List AV → List Value → Prop
 | [], vs => vs = []
 | x :: xs, vs => ∃ v vs', vs = v :: vs' ∧ rep E w x v ∧ reps E w xs vs'
end

theorem reps_get {E : Env} {w : World} : ∀ {xs : List AV} {vs : List Value}, reps E w xs vs → xs.length = vs.length ∧ ∀ (i : Nat) (x : AV), xs[i]? = some x → ∃ v, vs[i]? = some v ∧ rep E w x v
 | [], vs, h => by rw [reps] at h; subst h; simp
 | x :: xs, vs, h => by
  rw [reps] at h
  obtain ⟨v, vs', rfl, h1, h2⟩ := h
  obtain ⟨h3, h4⟩ := reps_get h2
  refine ⟨by simp [h3], fun i y hy => ?_⟩
  cases i with
  | zero => simp at hy; subst hy; exact ⟨v, rfl, h1⟩
  | succ i => simpa using h4 i y (by simpa using hy)
theorem reps_of {E : Env} {w : World} : ∀ {xs : List AV} {vs : List Value}, xs.length = vs.length → (∀ (i : Nat) (x : AV) (v : Value), xs[i]? = some x → vs[i]? = some v → rep E w x v) → reps E w xs vs
 | [], vs, hl, _ => by rw [reps]; exact List.eq_nil_of_length_eq_zero (by simpa using hl.symm)
 | x :: xs, [], hl, _ => by simp at hl
 | x :: xs, v :: vs, hl, h => by
  rw [reps]
  exact ⟨v, vs, rfl, h 0 x v rfl rfl, reps_of (by simpa using hl) (fun i y u hy hu => h (i + 1) y u (by simpa using hy) (by simpa using hu))⟩

structure Ext (E E' : Env) (w w' : World) : Prop where
 ver : ∀ r, E.ver r ≤ E'.ver r
 rho : ∀ r, E'.ver r = E.ver r → E'.ρ r = E.ρ r
 abs : ∀ r, E'.ver r = E.ver r → (E'.abs r ↔ E.abs r)
 zone : ∀ z b, E.zone z b → E'.zone z b
 cell : ∀ z b, E.zone z b → w'.heap[b]? = w.heap[b]?
 grow : ∀ (k : Nat) cur T fz, w.heap[k]? = some (.cells cur T fz) → ∃ cur' T' fz', w'.heap[k]? = some (.cells cur' T' fz') ∧ cur.size ≤ cur'.size
 pl : ∀ r, E'.ver r = E.ver r → ∀ i b, E.pl r i = some b → E'.pl r i = some b
theorem Ext.refl (E : Env) (w : World) : Ext E E w w := ⟨fun _ => Nat.le_refl _, fun _ _ => rfl, fun _ _ => Iff.rfl, fun _ _ h => h, fun _ _ _ => rfl, fun _ cur T fz h => ⟨cur, T, fz, h, Nat.le_refl _⟩, fun _ _ _ _ h => h⟩
theorem Ext.trans {E E' E'' : Env} {w w' w'' : World} (h : Ext E E' w w') (k : Ext E' E'' w' w'') : Ext E E'' w w'' := by
 have hv : ∀ r, E''.ver r = E.ver r → E'.ver r = E.ver r ∧ E''.ver r = E'.ver r := fun r e => by have := h.ver r; have := k.ver r; omega
 refine ⟨fun r => Nat.le_trans (h.ver r) (k.ver r), fun r e => (k.rho r (hv r e).2).trans (h.rho r (hv r e).1), fun r e => (k.abs r (hv r e).2).trans (h.abs r (hv r e).1), fun z b hz => k.zone z b (h.zone z b hz), fun z b hz => (k.cell z b (h.zone z b hz)).trans (h.cell z b hz), fun m cur T fz hc => ?_, fun r e i b q => k.pl r (hv r e).2 i b (h.pl r (hv r e).1 i b q)⟩
 obtain ⟨cur', T', fz', h1, h2⟩ := h.grow m cur T fz hc
 obtain ⟨cur'', T'', fz'', h3, h4⟩ := k.grow m cur' T' fz' h1
 exact ⟨cur'', T'', fz'', h3, Nat.le_trans h2 h4⟩

theorem World.cell_of_heap {w w' : World} {b o : Nat} (h : w'.heap[b]? = w.heap[b]?) : w'.cell? ⟨b, o, none⟩ = w.cell? ⟨b, o, none⟩ := World.cell?_of_block (w := w) (a := ⟨b, o, none⟩) h
mutual
theorem rep_ext {E E' : Env} {w w' : World} (X : Ext E E' w w') : ∀ (x : AV) (v : Value), rep E w x v → rep E' w' x v
 | .any, _, _ => by rw [rep]; trivial
 | .val u, v, h => by rw [rep] at h ⊢; exact h
 | .agg l, v, h => by
  rw [rep] at h ⊢
  obtain ⟨cs, rfl, h⟩ := h
  exact ⟨cs, rfl, reps_ext X l cs h⟩
 | .tup l, v, h => by
  rw [rep] at h ⊢
  obtain ⟨cs, rfl, h⟩ := h
  exact ⟨cs, rfl, reps_ext X l cs h⟩
 | .bs z l, v, h => by
  rw [rep] at h ⊢
  obtain ⟨a, n, c, rfl, h1, h2, h3, h4, h5⟩ := h
  refine ⟨a, n, c, rfl, h1, h2, h3, h4, fun i x hx => ?_⟩
  obtain ⟨b, o, h6, h7, h8⟩ := h5 i x hx
  exact ⟨b, o, h6, X.zone z b h7, (World.cell_of_heap (X.cell z b h7)).trans h8⟩
 | .sl z sz f d l, v, h => by
  rw [rep] at h ⊢
  obtain ⟨a, n, c, rfl, h1, h2, h3, h4, h5⟩ := h
  refine ⟨a, n, c, rfl, h1, h2, h3, h4, fun i x hx => ?_⟩
  obtain ⟨b, o, cs, h6, h7, h8, h9, h10⟩ := h5 i x hx
  exact ⟨b, o, cs, h6, X.zone z b h7, h8, reps_ext X (f x) cs h9, fun j u hu => (World.cell_of_heap (X.cell z b h7)).trans (h10 j u hu)⟩
 | .own r ver sz off n, v, h => by
  rw [rep] at h ⊢
  obtain ⟨h0, h⟩ := h
  refine ⟨Nat.le_trans h0 (X.ver r), fun e => ?_⟩
  have e1 : E'.ver r = E.ver r := by have := X.ver r; omega
  obtain ⟨a, c, rfl, h1, h2, h3, h4⟩ := h (by omega)
  refine ⟨a, c, rfl, h1, h2, h3, h4.imp id fun ⟨h50, h5, cur, T, fz, h6, h7⟩ => ?_⟩
  obtain ⟨cur', T', fz', h8, h9⟩ := X.grow _ cur T fz h6
  rw [X.rho r e1]
  exact ⟨fun q => h50 ((X.abs r e1).1 q), h5, cur', T', fz', h8, Nat.le_trans h7 h9⟩
 | .ref r ver sz i j, v, h => by
  rw [rep] at h ⊢
  obtain ⟨h0, h⟩ := h
  refine ⟨Nat.le_trans h0 (X.ver r), fun e => ?_⟩
  have e1 : E'.ver r = E.ver r := by have := X.ver r; omega
  rw [X.rho r e1]
  exact h (by omega)
 | .cp z cells j, v, h => by
  rw [rep] at h ⊢
  obtain ⟨b, o, cs, rfl, h7, h9, h10⟩ := h
  exact ⟨b, o, cs, rfl, X.zone z b h7, reps_ext X cells cs h9, fun j u hu => (World.cell_of_heap (X.cell z b h7)).trans (h10 j u hu)⟩
 | .clo f caps, v, h => by
  rw [rep] at h ⊢
  obtain ⟨cs, rfl, h⟩ := h
  exact ⟨cs, rfl, reps_ext X caps cs h⟩
 | .yld r ver, v, h => by
  rw [rep] at h ⊢
  obtain ⟨h0, h⟩ := h
  refine ⟨Nat.le_trans h0 (X.ver r), fun e => ?_⟩
  have e1 : E'.ver r = E.ver r := by have := X.ver r; omega
  rw [X.rho r e1]
  exact h (by omega)
 | .mth f l, v, h => by
  rw [rep] at h ⊢
  obtain ⟨cs, rfl, h⟩ := h
  exact ⟨cs, rfl, reps_ext X l cs h⟩
 | .ifc t x, v, h => by
  rw [rep] at h ⊢
  obtain ⟨u, rfl, h⟩ := h
  exact ⟨u, rfl, rep_ext X x u h⟩
 | .mp r ver, v, h => by
  rw [rep] at h ⊢
  obtain ⟨h0, h⟩ := h
  refine ⟨Nat.le_trans h0 (X.ver r), fun e => ?_⟩
  have e1 : E'.ver r = E.ver r := by have := X.ver r; omega
  rw [X.rho r e1]
  exact h (by omega)
 | .pl r ver i off n, v, h => by
  rw [rep] at h ⊢
  obtain ⟨h0, h⟩ := h
  refine ⟨Nat.le_trans h0 (X.ver r), fun e => ?_⟩
  have e1 : E'.ver r = E.ver r := by have := X.ver r; omega
  obtain ⟨a, c, rfl, h1, h2, h3, h4⟩ := h (by omega)
  refine ⟨a, c, rfl, h1, h2, h3, h4.imp id fun ⟨b, h50, h5, cur, T, fz, h6, h7⟩ => ?_⟩
  obtain ⟨cur', T', fz', h8, h9⟩ := X.grow _ cur T fz h6
  exact ⟨b, X.pl r e1 i b h50, h5, cur', T', fz', h8, Nat.le_trans h7 h9⟩
 | .plr r ver i k, v, h => by
  rw [rep] at h ⊢
  obtain ⟨h0, h⟩ := h
  refine ⟨Nat.le_trans h0 (X.ver r), fun e => ?_⟩
  have e1 : E'.ver r = E.ver r := by have := X.ver r; omega
  obtain ⟨b, h1, h2⟩ := h (by omega)
  exact ⟨b, X.pl r e1 i b h1, h2⟩
 | .gd φ x, v, h => by
  rw [rep] at h ⊢
  exact ⟨fun p => rep_ext X x v (h.1 p), h.2⟩
theorem reps_ext {E E' : Env} {w w' : World} (X : Ext E E' w w') : ∀ (xs : List AV) (vs : List Value), reps E w xs vs → reps E' w' xs vs
 | [], vs, h => by rw [reps] at h ⊢; exact h
 | x :: xs, vs, h => by
  rw [reps] at h ⊢
  obtain ⟨v, vs', rfl, h1, h2⟩ := h
  exact ⟨v, vs', rfl, rep_ext X x v h1, reps_ext X xs vs' h2⟩
end

/-! rows -/
def Bd.at : Bd → Nat → Option (List AV)
 | .dead, _ => none
 | .bytes l, i => (l[i]?).map fun b => [.val (bv b)]
 | .row _ f _ l, i => (l[i]?).map f
 | .obj l, i => if i = 0 then some l else none
 | .lp .., _ => none
 | .pool _, _ => none
def Bd.sz : Bd → Nat
 | .dead => 0
 | .bytes _ => 1
 | .row sz _ _ _ => sz
 | .obj l => l.length
 | .lp .. => 0
 | .pool _ => 0
def Bd.count : Bd → Nat
 | .dead => 0
 | .bytes l => l.length
 | .row _ _ _ l => l.length
 | .obj _ => 1
 | .lp .. => 1
 | .pool _ => 1
def Bd.live : Bd → Bool
 | .dead => false
 | .pool _ => false
 | _ => true
def Bd.isP : Bd → Bool
 | .pool _ => true
 | _ => false
def Bd.cel : Bd → Bool
 | .dead => false
 | .lp .. => false
 | .pool _ => false
 | _ => true
def Bd.lpB : Bd → Bool
 | .lp .. => true
 | .pool _ => true
 | _ => false
theorem Bd.lpB_of {b : Bd} (h : b.cel = true) : b.lpB = false := by cases b <;> first | rfl | cases h
theorem Bd.not_lp {b : Bd} (h : b.lpB = false) {i tR st} : b ≠ .lp i tR st := by intro e; rw [e] at h; cases h
theorem Bd.isP_of_lpB {b : Bd} (h : b.lpB = false) : b.isP = false := by cases b <;> first | rfl | cases h
theorem Bd.live_of {b : Bd} (h : b.cel = true) : b.live = true := by cases b <;> first | rfl | cases h
theorem Bd.at_lt {b : Bd} {i : Nat} {ys : List AV} (h : b.at i = some ys) : i < b.count := by
 cases b with
 | dead => simp [Bd.at] at h
 | bytes l =>
  simp only [Bd.at, Option.map_eq_some_iff] at h
  obtain ⟨x, hx, _⟩ := h
  exact (List.getElem?_eq_some_iff.1 hx).1
 | row sz f d l =>
  simp only [Bd.at, Option.map_eq_some_iff] at h
  obtain ⟨x, hx, _⟩ := h
  exact (List.getElem?_eq_some_iff.1 hx).1
 | obj l =>
  simp only [Bd.at] at h
  split at h
  ·simp [Bd.count]; assumption
  ·cases h
 | lp => simp [Bd.at] at h
 | pool => simp [Bd.at] at h
structure EntRep (E : Env) (w : World) (b : Nat) (bd : Bd) : Prop where
 blk : bd.cel = true → ∃ cur T lo hi, w.heap[b]? = some (.cells cur T (lo, hi)) ∧ (hi = lo ∨ cur.size ≤ lo) ∧ bd.count * bd.sz ≤ cur.size ∧
  ∀ i ys, bd.at i = some ys → ∃ cs, cs.length = bd.sz ∧ reps E w ys cs ∧ ∀ j u, cs[j]? = some u → cur[i * bd.sz + j]? = some u
 lp : ∀ i tR st, bd = .lp i tR st → b = i.l ∧ ∃ R : Loop, w.heap[b]? = some (.loop R) ∧ R.params = i.ps ∧ R.assign = i.asn ∧ R.body = i.body ∧ R.pending = st ∧ R.state = (if st.isNone then .ready else .done) ∧ R.tmps = i.tv ∧ reps E w tR i.tv.toList ∧
  ∀ D ∈ i.ks, (∃ z, E.zone z D) ∧ w.heap[D]? = some (.deferred (some []))
theorem EntRep.ext {E E' : Env} {w w' : World} {b : Nat} {bd : Bd} (X : Ext E E' w w') (h : EntRep E w b bd) (hb : w'.heap[b]? = w.heap[b]?) : EntRep E' w' b bd :=
 ⟨fun hl => by
  obtain ⟨cur, T, lo, hi, h1, h2, h3, h4⟩ := h.blk hl
  exact ⟨cur, T, lo, hi, hb.trans h1, h2, h3, fun i ys hy => by
   obtain ⟨cs, h5, h6, h7⟩ := h4 i ys hy
   exact ⟨cs, h5, reps_ext X ys cs h6, h7⟩⟩, fun i tR st e => by
  obtain ⟨h0, R, h1, h2, h3, h4, h5, h6, h7, h8, h9⟩ := h.lp _ _ _ e
  refine ⟨h0, R, hb.trans h1, h2, h3, h4, h5, h6, h7, reps_ext X tR _ h8, fun D hD => ?_⟩
  obtain ⟨⟨z, hz⟩, hh⟩ := h9 D hD
  exact ⟨⟨z, X.zone z D hz⟩, (X.cell z D hz).trans hh⟩⟩
def Liv (E : Env) (r : Nat) (e : Ent) : Prop := e.bd.live = true ∧ ¬ E.abs r
def Gl (E : Env) (w : World) : Prop := ∀ g cs, laidG g = some cs → E.zone 0 g ∧ ∀ (j : Nat) (u : Value), cs[j]? = some u → w.cell? ⟨g, j, none⟩ = some u
theorem Gl.ext {E E' : Env} {w w' : World} (X : Ext E E' w w') (h : Gl E w) : Gl E' w' := fun g cs hg => by
 obtain ⟨h1, h2⟩ := h g cs hg
 exact ⟨X.zone 0 g h1, fun j u hu => (World.cell_of_heap (X.cell 0 g h1)).trans (h2 j u hu)⟩
def Blk (E : Env) (r : Nat) (e : Ent) (b : Nat) : Prop := (Liv E r e ∧ E.ρ r = b) ∨ (e.bd.isP = true ∧ ∃ i, E.pl r i = some b)
theorem Blk.of {E : Env} {r : Nat} {e : Ent} (h : Liv E r e) : Blk E r e (E.ρ r) := .inl ⟨h, rfl⟩
theorem Blk.dead {E : Env} {r v b : Nat} : ¬ Blk E r ⟨v, .dead⟩ b := by
 rintro (⟨⟨h, _⟩, _⟩ | ⟨h, _⟩) <;> cases h
structure PoolRep (pl : Nat → Option Nat) (w : World) (ls : List (List UInt8)) : Prop where
 has : ∀ (i : Nat) (l : List UInt8), ls[i]? = some l → l ≠ [] → ∃ b, pl i = some b
 blk : ∀ (i : Nat) (l : List UInt8) (b : Nat), ls[i]? = some l → pl i = some b → ∃ cur T lo hi, w.heap[b]? = some (.cells cur T (lo, hi)) ∧ (hi = lo ∨ cur.size ≤ lo) ∧ l.length ≤ cur.size ∧ ∀ (j : Nat) (x : UInt8), l[j]? = some x → cur[j]? = some (bv x)
 inj : ∀ i j b, pl i = some b → pl j = some b → i = j
 top : ∀ i b, pl i = some b → i < ls.length
theorem PoolRep.lt {pl : Nat → Option Nat} {w : World} {ls : List (List UInt8)} (h : PoolRep pl w ls) {i b : Nat} (hb : pl i = some b) : b < w.heap.size := by
 obtain ⟨cur, T, lo, hi, h1, _⟩ := h.blk i _ b (List.getElem?_eq_getElem (h.top i b hb)) hb
 exact (Array.getElem?_eq_some_iff.1 h1).1
theorem PoolRep.cong {pl : Nat → Option Nat} {w w' : World} {ls : List (List UInt8)} (h : PoolRep pl w ls) (hw : ∀ i b, pl i = some b → w'.heap[b]? = w.heap[b]?) : PoolRep pl w' ls :=
 ⟨h.has, fun i l b hl hb => by rw [hw i b hb]; exact h.blk i l b hl hb, h.inj, h.top⟩
structure HR (E : Env) (w : World) (H : List Ent) : Prop where
 ver : ∀ (r : Nat) (e : Ent), H[r]? = some e → E.ver r = e.ver
 ent : ∀ (r : Nat) (e : Ent), H[r]? = some e → Liv E r e → EntRep E w (E.ρ r) e.bd
 abs : ∀ (r : Nat) (e : Ent), H[r]? = some e → E.abs r → e.bd.count = 0
 inj : ∀ (r r' : Nat) (e e' : Ent) (b : Nat), H[r]? = some e → H[r']? = some e' → Blk E r e b → Blk E r' e' b → r = r'
 zlt : ∀ z b, E.zone z b → b < w.heap.size
 zrow : ∀ (r : Nat) (e : Ent) (b : Nat), H[r]? = some e → Blk E r e b → ∀ z, ¬ E.zone z b
 top : ∀ r, H.length ≤ r → E.ver r = 0 ∧ ¬ E.abs r
 gl : Gl E w
 pool : ∀ (r v : Nat) (ls : List (List UInt8)), H[r]? = some ⟨v, .pool ls⟩ → PoolRep (E.pl r) w ls
theorem HR.lt {E : Env} {w : World} {H : List Ent} (h : HR E w H) {r : Nat} {e : Ent} (hr : H[r]? = some e) (hl : Liv E r e) : E.ρ r < w.heap.size := by
 have he := h.ent r e hr hl
 cases hb : e.bd with
 | dead => have := hl.1; rw [hb] at this; cases this
 | pool => have := hl.1; rw [hb] at this; cases this
 | lp i tR st =>
  obtain ⟨_, R, h1, _⟩ := he.lp _ _ _ hb
  exact (Array.getElem?_eq_some_iff.1 h1).1
 | bytes l => obtain ⟨cur, T, lo, hi, h1, _⟩ := he.blk (by rw [hb]; rfl); exact (Array.getElem?_eq_some_iff.1 h1).1
 | row sz f d l => obtain ⟨cur, T, lo, hi, h1, _⟩ := he.blk (by rw [hb]; rfl); exact (Array.getElem?_eq_some_iff.1 h1).1
 | obj l => obtain ⟨cur, T, lo, hi, h1, _⟩ := he.blk (by rw [hb]; rfl); exact (Array.getElem?_eq_some_iff.1 h1).1
theorem isP_of {e : Ent} (h : e.bd.isP = true) : ∃ ls, e = ⟨e.ver, .pool ls⟩ := by
 obtain ⟨v, bd⟩ := e
 cases bd <;> first | exact ⟨_, rfl⟩ | cases h
theorem HR.blt {E : Env} {w : World} {H : List Ent} (h : HR E w H) {r : Nat} {e : Ent} (hr : H[r]? = some e) {b : Nat} (hb : Blk E r e b) : b < w.heap.size := by
 rcases hb with ⟨hl, rfl⟩ | ⟨hp, i, hi⟩
 ·exact h.lt hr hl
 ·obtain ⟨ls, he⟩ := isP_of hp
  rw [he] at hr
  exact (h.pool r _ ls hr).lt hi
theorem HR.zrowL {E : Env} {w : World} {H : List Ent} (h : HR E w H) (r : Nat) (e : Ent) (hr : H[r]? = some e) (hl : Liv E r e) (z : Nat) : ¬ E.zone z (E.ρ r) := h.zrow r e _ hr (Blk.of hl) z
structure Fr (w0 : World) (keep : Nat → Prop) (E : Env) (H : List Ent) (w : World) : Prop where
 os : w.os = w0.os
 tape : w.tape = w0.tape
 output : w.output = w0.output
 size : w0.heap.size ≤ w.heap.size
 block : ∀ k, k < w0.heap.size → keep k → w.heap[k]? = w0.heap[k]?
 grow : ∀ (k : Nat) cur T fz, w0.heap[k]? = some (.cells cur T fz) → ∃ cur' T' fz', w.heap[k]? = some (.cells cur' T' fz') ∧ cur.size ≤ cur'.size
 rows : ∀ (r : Nat) (e : Ent) (b : Nat), H[r]? = some e → Blk E r e b → b < w0.heap.size → ¬ keep b
end Go.Proofs.YtmjpbmcbcppkfaaGreatDoor

/-! Abstract values: what the operations that touch no memory make of them. Conditions: what 'TIok' says of the types. -/
namespace Go.Proofs.YtmjpbmcbcppkfaaGreatDoor
set_option linter.unusedVariables false
set_option linter.unusedSimpArgs false
inductive UK where
 | int (k : IntKind) | bool | string | ptr (E : TypeId) | slice (E : TypeId) | array (n : Nat) (E : TypeId) | struct (fs : List (Nat × TypeId)) | func | iface | map (K E : TypeId) | other
structure TI where
 u : UK
 sz : Nat
 bytes : Nat
 zero : List Value
 cmp : Bool
def inK (k : IntKind) (n : Int) : Prop := match k with
 | .i8 => -128 ≤ n ∧ n ≤ 127
 | .i16 => -32768 ≤ n ∧ n ≤ 32767
 | .i32 => -2147483648 ≤ n ∧ n ≤ 2147483647
 | .i64 => -9223372036854775808 ≤ n ∧ n ≤ 9223372036854775807
 | .u8 => 0 ≤ n ∧ n ≤ 255
 | .u16 => 0 ≤ n ∧ n ≤ 65535
 | .u32 => 0 ≤ n ∧ n ≤ 4294967295
 | .u64 => 0 ≤ n ∧ n ≤ 18446744073709551615
def fit1 : Value → Value → Prop
 | .int k _, .int k' n => k' = k ∧ inK k n
 | .bool _, .bool _ => True
 | .string _, .string s => s.size ≤ maxLen
 | _, _ => False
def fitV : List Value → List Value → Prop
 | [], [] => True
 | x :: xs, y :: ys => fit1 x y ∧ fitV xs ys
 | _, _ => False
def eqV : Value → Value → Bool
 | .int _ a, .int _ b => decide (a = b)
 | .bool a, .bool b => decide (a = b)
 | .string a, .string b => decide (a.data.toList = b.data.toList)
 | _, _ => false
def eqVs : List Value → List Value → Bool
 | [], [] => true
 | x :: xs, y :: ys => eqV x y && eqVs xs ys
 | _, _ => false
def EqT (P : Program) (t : TypeId) (z : List Value) : Prop := ∀ (w : World) (vs ws : List Value) (x y : Operand), fitV z vs → fitV z ws →
 (eqGuard .eql t x y (.agg vs.toArray) (.agg ws.toArray)).run P w = .ok () w ∧ (eqGuard .neq t x y (.agg vs.toArray) (.agg ws.toArray)).run P w = .ok () w ∧
 (binOp .eql t (.agg vs.toArray) (.agg ws.toArray)).run P w = .ok (.bool (eqVs vs ws)) w ∧ (binOp .neq t (.agg vs.toArray) (.agg ws.toArray)).run P w = .ok (.bool (!eqVs vs ws)) w
def UK.ok (P : Program) (t : TypeId) : UK → Prop
 | .int k => P.underlying t = some (.int k)
 | .bool => P.underlying t = some .bool
 | .string => P.underlying t = some .string
 | .ptr E => P.underlying t = some (.pointer E)
 | .slice E => P.underlying t = some (.slice E)
 | .array n E => P.underlying t = some (.array n E)
 | .struct fs => ∃ flds, P.underlying t = some (.struct flds) ∧ flds.toList.map (fun f => (f.offset, f.type)) = fs
 | .func => ∃ a b c, P.underlying t = some (.func a b c)
 | .iface => ∃ ms, P.underlying t = some (.interface ms)
 | .map K E => P.underlying t = some (.map K E)
 | .other => True
def UK.isAgg : UK → Bool
 | .struct _ | .array _ _ => true
 | _ => false
structure TIok (P : Program) (t : TypeId) (ti : TI) : Prop where
 u : ti.u.ok P t
 info : ∃ z, (P.info? t).map (fun i => (i.zero, i.size, i.bytes)) = some (some z, ti.sz, ti.bytes) ∧ z.cells.toList = ti.zero
 zsz : ti.zero.length = ti.sz
 cmp : ti.cmp = true → EqT P t ti.zero
def TbOk (P : Program) (tb : TypeId → Option TI) : Prop := ∀ t ti, tb t = some ti → TIok P t ti

def getL {α : Type 1} : List α → Nat → Option α
 | [], _ => none
 | x :: _, 0 => some x
 | _ :: l, n + 1 => getL l n
theorem getL_eq {α : Type 1} : ∀ (l : List α) (i : Nat), getL l i = l[i]?
 | [], _ => rfl
 | _ :: _, 0 => rfl
 | _ :: l, i + 1 => by simpa [getL] using getL_eq l i
def getA (l : List AV) (i : Nat) : AV := match getL l i with | some x => x | none => .any
def setL {α : Type 1} : List α → Nat → α → List α
 | [], _, _ => []
 | _ :: l, 0, v => v :: l
 | x :: l, n + 1, v => x :: setL l n v
theorem setL_eq {α : Type 1} : ∀ (l : List α) (i : Nat) (v : α), setL l i v = l.set i v
 | [], _, _ => rfl
 | _ :: _, 0, _ => rfl
 | _ :: l, i + 1, v => by simp [setL, setL_eq l i v]
def dropL {α : Type 1} : List α → Nat → List α
 | l, 0 => l
 | [], _ + 1 => []
 | _ :: l, n + 1 => dropL l n
theorem dropL_eq {α : Type 1} : ∀ (l : List α) (i : Nat), dropL l i = l.drop i
 | _, 0 => by simp [dropL]
 | [], _ + 1 => by simp [dropL]
 | _ :: l, i + 1 => by simp [dropL, dropL_eq l i]
def takeL {α : Type 1} : List α → Nat → List α
 | _, 0 => []
 | [], _ + 1 => []
 | x :: l, n + 1 => x :: takeL l n
theorem takeL_eq {α : Type 1} : ∀ (l : List α) (i : Nat), takeL l i = l.take i
 | _, 0 => by simp [takeL]
 | [], _ + 1 => by simp [takeL]
 | _ :: l, i + 1 => by simp [takeL, takeL_eq l i]

/-! integers -/
theorem wrap_in {k : IntKind} {n : Int} (h : inK k n) : k.wrap n = n := by
 cases k <;> simp only [inK] at h <;> simp [IntKind.wrap, IntKind.signed, IntKind.bits] <;> omega
theorem wrap_u8 (n : Int) : IntKind.u8.wrap n = n % 256 := by simp [IntKind.wrap, IntKind.signed, IntKind.bits]
theorem wrap_u16 (n : Int) : IntKind.u16.wrap n = n % 65536 := by simp [IntKind.wrap, IntKind.signed, IntKind.bits]
theorem wrap_u32 (n : Int) : IntKind.u32.wrap n = n % 4294967296 := by simp [IntKind.wrap, IntKind.signed, IntKind.bits]
theorem wrap_u64 (n : Int) : IntKind.u64.wrap n = n % 18446744073709551616 := by simp [IntKind.wrap, IntKind.signed, IntKind.bits]
abbrev KF := Prop → AV → List (Nat × Ent) → Prop
def ar (k : IntKind) (n : Int) (K : Prop → AV → Prop) : Prop := match k with
 | .i64 => K (inK .i64 n) (.val (.int .i64 n))
 | .u8 => K True (.val (.int .u8 (n % 256)))
 | .u16 => K True (.val (.int .u16 (n % 65536)))
 | .u32 => K True (.val (.int .u32 (n % 4294967296)))
 | .u64 => K True (.val (.int .u64 (n % 18446744073709551616)))
 | k => K True (.val (.int k (k.wrap n)))
theorem ar_sound {k : IntKind} {n : Int} {K : Prop → AV → Prop} (h : ar k n K) : ∃ Φ m, K Φ (.val (.int k m)) ∧ (Φ → k.wrap n = m) := by
 cases k <;> simp only [ar] at h
 case i64 => exact ⟨_, _, h, fun p => wrap_in p⟩
 case u8 => exact ⟨_, _, h, fun _ => wrap_u8 n⟩
 case u16 => exact ⟨_, _, h, fun _ => wrap_u16 n⟩
 case u32 => exact ⟨_, _, h, fun _ => wrap_u32 n⟩
 case u64 => exact ⟨_, _, h, fun _ => wrap_u64 n⟩
 all_goals exact ⟨_, _, h, fun _ => rfl⟩
def andK (k : IntKind) (a b : Int) (K : Prop → AV → Prop) : Prop := match k with
 | .i64 => if b = 4294967295 then K True (.val (.int .i64 (a % 4294967296))) else K (0 ≤ a ∧ 0 ≤ b ∧ inK .i64 a ∧ inK .i64 b) (.val (.int .i64 ((a.toNat &&& b.toNat : Nat) : Int)))
 | k => K (0 ≤ a ∧ 0 ≤ b ∧ inK k a ∧ inK k b) (.val (.int k ((a.toNat &&& b.toNat : Nat) : Int)))
def intK (op : BinOp) (k : IntKind) (a b : Int) (K : Prop → AV → Prop) : Prop := match op with
 | .add => ar k (a + b) K
 | .sub => ar k (a - b) K
 | .mul => ar k (a * b) K
 | .quo => K (0 ≤ a ∧ inK k a ∧ 0 < b) (.val (.int k (a / b)))
 | .rem => K (0 ≤ a ∧ inK k a ∧ 0 < b) (.val (.int k (a % b)))
 | .and => andK k a b K
 | .or => K (0 ≤ a ∧ 0 ≤ b ∧ inK k a ∧ inK k b) (.val (.int k ((a.toNat ||| b.toNat : Nat) : Int)))
 | .xor => K (0 ≤ a ∧ 0 ≤ b ∧ inK k a ∧ inK k b) (.val (.int k ((a.toNat ^^^ b.toNat : Nat) : Int)))
 | .andNot => K (0 ≤ a ∧ 0 ≤ b ∧ inK k a ∧ inK k b) (.val (.int k ((a.toNat &&& (2 ^ k.bits - 1 - b.toNat) : Nat) : Int)))
 | .eql => K True (.val (.bool (decide (a = b))))
 | .neq => K True (.val (.bool (!decide (a = b))))
 | .lss => K True (.val (.bool (decide (a < b))))
 | .leq => K True (.val (.bool (decide (a ≤ b))))
 | .gtr => K True (.val (.bool (decide (b < a))))
 | .geq => K True (.val (.bool (decide (b ≤ a))))
 | _ => False
theorem inK_lt {k : IntKind} {a : Int} (h : inK k a) (h0 : 0 ≤ a) : a.toNat < 2 ^ k.bits := by
 cases k <;> simp only [inK] at h <;> simp only [IntKind.bits] <;> omega
theorem inK_half {k : IntKind} {a : Int} (h : inK k a) (h0 : 0 ≤ a) (hs : k.signed = true) : a.toNat < 2 ^ (k.bits - 1) := by
 cases k <;> simp only [inK] at h <;> simp only [IntKind.bits] <;> simp [IntKind.signed] at hs <;> omega
theorem wrap_nat {k : IntKind} {n : Nat} (h : n < 2 ^ k.bits) (hs : k.signed = true → n < 2 ^ (k.bits - 1)) : k.wrap n = n := by
 apply wrap_in
 cases k <;> simp [IntKind.bits, IntKind.signed] at h hs <;> simp only [inK] <;> omega
theorem ofInt_toNat {k : IntKind} {a : Int} (h : inK k a) (h0 : 0 ≤ a) : (BitVec.ofInt k.bits a).toNat = a.toNat := by
 have h1 := inK_lt h h0
 rw [BitVec.toNat_ofInt]
 cases k <;> simp only [IntKind.bits] at h1 ⊢ <;> omega
variable {P : Program}
theorem intK_sound {op : BinOp} {k : IntKind} {a b : Int} {K : Prop → AV → Prop} (T : TypeId) (h : intK op k a b K) :
    ∃ Φ u, K Φ (.val u) ∧ (Φ → ∀ w, (binOp op T (.int k a) (.int k b)).run P w = .ok u w) := by
 cases op <;> simp only [intK] at h
 case add => obtain ⟨Φ, m, h1, h2⟩ := ar_sound h; exact ⟨Φ, _, h1, fun p w => by simp [binOp, Op.intArith, h2 p]⟩
 case sub => obtain ⟨Φ, m, h1, h2⟩ := ar_sound h; exact ⟨Φ, _, h1, fun p w => by simp [binOp, Op.intArith, h2 p]⟩
 case mul => obtain ⟨Φ, m, h1, h2⟩ := ar_sound h; exact ⟨Φ, _, h1, fun p w => by simp [binOp, Op.intArith, h2 p]⟩
 case quo => exact ⟨_, _, h, fun p w => by
  obtain ⟨h0, h1, h2⟩ := p
  have e : a.tdiv b = a / b := Int.tdiv_eq_ediv_of_nonneg h0
  have hd : 0 ≤ a / b := Int.ediv_nonneg h0 (by omega)
  have hle : a / b ≤ a := Int.ediv_le_self _ h0
  have hk : inK k (a / b) := by cases k <;> simp only [inK] at h1 ⊢ <;> omega
  have hb : ¬ b = 0 := by omega
  simp [binOp, Op.intDiv, hb, e, wrap_in hk]⟩
 case rem => exact ⟨_, _, h, fun p w => by
  obtain ⟨h0, h1, h2⟩ := p
  have e : a.tmod b = a % b := Int.tmod_eq_emod_of_nonneg h0
  have hb : ¬ b = 0 := by omega
  simp [binOp, Op.intDiv, hb, e]⟩
 case and =>
  have old : K (0 ≤ a ∧ 0 ≤ b ∧ inK k a ∧ inK k b) (.val (.int k ((a.toNat &&& b.toNat : Nat) : Int))) → ∃ Φ u, K Φ (.val u) ∧ (Φ → ∀ w, (binOp .and T (.int k a) (.int k b)).run P w = .ok u w) := fun h => ⟨_, _, h, fun p w => by
   obtain ⟨h0, h1, h2, h3⟩ := p
   have e : k.wrap ((BitVec.ofInt k.bits a &&& BitVec.ofInt k.bits b).toNat : Int) = ((a.toNat &&& b.toNat : Nat) : Int) := by
    rw [BitVec.toNat_and, ofInt_toNat h2 h0, ofInt_toNat h3 h1]
    exact wrap_nat (Nat.and_lt_two_pow _ (inK_lt h3 h1)) (fun hs => Nat.and_lt_two_pow _ (inK_half h3 h1 hs))
   simp only [binOp, ne_eq, not_true_eq_false, if_false, Op.intBits, Sem.run_pure, e]⟩
  unfold andK at h
  split at h
  ·split at h
   ·rename_i hb
    subst hb
    refine ⟨_, _, h, fun _ w => ?_⟩
    have e : IntKind.i64.wrap ((BitVec.ofInt IntKind.i64.bits a &&& BitVec.ofInt IntKind.i64.bits 4294967295).toNat : Int) = a % 4294967296 := by
     have e1 : (BitVec.ofInt IntKind.i64.bits 4294967295).toNat = 2 ^ 32 - 1 := rfl
     have e2 : (BitVec.ofInt IntKind.i64.bits a).toNat = (a % 18446744073709551616).toNat := by
      rw [BitVec.toNat_ofInt]; rfl
     rw [BitVec.toNat_and, e1, e2, Nat.and_two_pow_sub_one_eq_mod]
     have e3 : (((a % 18446744073709551616).toNat % 2 ^ 32 : Nat) : Int) = a % 4294967296 := by omega
     rw [← e3]
     have hlt : (a % 18446744073709551616).toNat % 2 ^ 32 < 2 ^ 32 := Nat.mod_lt _ (by decide)
     exact wrap_nat (Nat.lt_of_lt_of_le hlt (by decide)) (fun _ => Nat.lt_of_lt_of_le hlt (by decide))
    simp only [binOp, ne_eq, not_true_eq_false, if_false, Op.intBits, Sem.run_pure, e]
   ·exact old h
  ·exact old h
 case or => exact ⟨_, _, h, fun p w => by
  obtain ⟨h0, h1, h2, h3⟩ := p
  have e : k.wrap ((BitVec.ofInt k.bits a ||| BitVec.ofInt k.bits b).toNat : Int) = ((a.toNat ||| b.toNat : Nat) : Int) := by
   rw [BitVec.toNat_or, ofInt_toNat h2 h0, ofInt_toNat h3 h1]
   exact wrap_nat (Nat.or_lt_two_pow (inK_lt h2 h0) (inK_lt h3 h1)) (fun hs => Nat.or_lt_two_pow (inK_half h2 h0 hs) (inK_half h3 h1 hs))
  simp only [binOp, ne_eq, not_true_eq_false, if_false, Op.intBits, Sem.run_pure, e]⟩
 case xor => exact ⟨_, _, h, fun p w => by
  obtain ⟨h0, h1, h2, h3⟩ := p
  have e : k.wrap ((BitVec.ofInt k.bits a ^^^ BitVec.ofInt k.bits b).toNat : Int) = ((a.toNat ^^^ b.toNat : Nat) : Int) := by
   rw [BitVec.toNat_xor, ofInt_toNat h2 h0, ofInt_toNat h3 h1]
   exact wrap_nat (Nat.xor_lt_two_pow (inK_lt h2 h0) (inK_lt h3 h1)) (fun hs => Nat.xor_lt_two_pow (inK_half h2 h0 hs) (inK_half h3 h1 hs))
  simp only [binOp, ne_eq, not_true_eq_false, if_false, Op.intBits, Sem.run_pure, e]⟩
 case andNot => exact ⟨_, _, h, fun p w => by
  obtain ⟨h0, h1, h2, h3⟩ := p
  have e : k.wrap ((BitVec.ofInt k.bits a &&& ~~~ BitVec.ofInt k.bits b).toNat : Int) = ((a.toNat &&& (2 ^ k.bits - 1 - b.toNat) : Nat) : Int) := by
   rw [BitVec.toNat_and, BitVec.toNat_not, ofInt_toNat h2 h0, ofInt_toNat h3 h1, Nat.and_comm]
   exact wrap_nat (Nat.and_lt_two_pow _ (inK_lt h2 h0)) (fun hs => Nat.and_lt_two_pow _ (inK_half h2 h0 hs))
  simp only [binOp, ne_eq, not_true_eq_false, if_false, Op.intBits, Sem.run_pure, e]⟩
 case eql => exact ⟨_, _, h, fun p w => by simp only [binOp, ne_eq, not_true_eq_false, if_false, Op.intCmp, Sem.run_pure]; rfl⟩
 case neq => exact ⟨_, _, h, fun p w => by simp only [binOp, ne_eq, not_true_eq_false, if_false, Op.intCmp, Sem.run_pure]; rfl⟩
 case lss => exact ⟨_, _, h, fun p w => by simp only [binOp, ne_eq, not_true_eq_false, if_false, Op.intCmp, Sem.run_pure]⟩
 case leq => exact ⟨_, _, h, fun p w => by simp only [binOp, ne_eq, not_true_eq_false, if_false, Op.intCmp, Sem.run_pure]⟩
 case gtr => exact ⟨_, _, h, fun p w => by simp only [binOp, ne_eq, not_true_eq_false, if_false, Op.intCmp, Sem.run_pure]⟩
 case geq => exact ⟨_, _, h, fun p w => by simp only [binOp, ne_eq, not_true_eq_false, if_false, Op.intCmp, Sem.run_pure]⟩
 all_goals exact h.elim
def shK (op : BinOp) (k : IntKind) (a b : Int) (K : Prop → AV → Prop) : Prop := match op with
 | .shr => K (0 ≤ a ∧ inK k a ∧ 0 ≤ b) (.val (.int k (a / 2 ^ b.toNat)))
 | .shl => ar k (a * 2 ^ b.toNat) fun Φ v => K (Φ ∧ 0 ≤ b ∧ b ≤ k.bits) v
 | _ => False
theorem shK_sound {op : BinOp} {k k' : IntKind} {a b : Int} {K : Prop → AV → Prop} (T : TypeId) (h : shK op k a b K) :
    ∃ Φ u, K Φ (.val u) ∧ (Φ → ∀ w, (binOp op T (.int k a) (.int k' b)).run P w = .ok u w) := by
 cases op <;> simp only [shK] at h
 case shl =>
  obtain ⟨Φ, m, h1, h2⟩ := ar_sound h
  refine ⟨_, _, h1, fun p w => ?_⟩
  obtain ⟨p1, p2, p3⟩ := p
  have hb : ¬ b < 0 := by omega
  have e : min b.toNat k.bits = b.toNat := by omega
  simp [binOp, Op.shift, hb, e, h2 p1]
 case shr =>
  refine ⟨_, _, h, fun p w => ?_⟩
  obtain ⟨p1, p2, p3⟩ := p
  have hb : ¬ b < 0 := by omega
  have e : a.fdiv (2 ^ min b.toNat k.bits) = a / 2 ^ b.toNat := by
   rw [Int.fdiv_eq_ediv_of_nonneg _ (by have := Int.pow_pos (n := 2) (m := min b.toNat k.bits) (by decide); omega)]
   by_cases hle : b.toNat ≤ k.bits
   ·rw [Nat.min_eq_left hle]
   ·rw [Nat.min_eq_right (by omega)]
    have hlt := inK_lt p2 p1
    have h1 : a < 2 ^ k.bits := by
     have : ((a.toNat : Nat) : Int) < ((2 ^ k.bits : Nat) : Int) := by exact_mod_cast hlt
     rw [Int.toNat_of_nonneg p1] at this
     simpa using this
    have h2 : (2 : Int) ^ k.bits ≤ 2 ^ b.toNat := by
     have : (2 ^ k.bits : Nat) ≤ 2 ^ b.toNat := Nat.pow_le_pow_right (by decide) (by omega)
     exact_mod_cast this
    rw [Int.ediv_eq_zero_of_lt p1 h1, Int.ediv_eq_zero_of_lt p1 (by omega)]
  simp [binOp, Op.shift, hb, e]
 all_goals exact h.elim
end Go.Proofs.YtmjpbmcbcppkfaaGreatDoor

/-! Abstract values: rows, and what becomes of them; operations that read or write memory. Conditions: what 'TIok' says of the types. -/
namespace Go.Proofs.YtmjpbmcbcppkfaaGreatDoor
set_option linter.unusedVariables false
set_option linter.unusedSimpArgs false
def updH : List Ent → List (Nat × Ent) → List Ent
 | H, [] => H
 | H, (r, e) :: us => updH (setL H r e) us
def Hb (E : Env) (H : List Ent) (b : Nat) : Prop := ∃ (r0 : Nat) (e0 : Ent), H[r0]? = some e0 ∧ Blk E r0 e0 b
structure Out (E E' : Env) (w w' : World) (H : List Ent) (us : List (Nat × Ent)) : Prop where
 ext : Ext E E' w w'
 hr : HR E' w' (updH H us)
 os : w'.os = w.os
 tape : w'.tape = w.tape
 output : w'.output = w.output
 size : w.heap.size ≤ w'.heap.size
 zone : ∀ z b, E'.zone z b → E.zone z b ∨ w.heap.size ≤ b ∨ Hb E H b
 grow : ∀ (k : Nat) cur T fz, w.heap[k]? = some (.cells cur T fz) → ∃ cur' T' fz', w'.heap[k]? = some (.cells cur' T' fz') ∧ cur.size ≤ cur'.size
 block : ∀ k, k < w.heap.size → (∀ (r : Nat) (e : Ent), H[r]? = some e → Blk E r e k → r ∉ us.map (·.1)) → w'.heap[k]? = w.heap[k]?
 rows : ∀ (r : Nat) (e : Ent) (b : Nat), (updH H us)[r]? = some e → Blk E' r e b → w.heap.size ≤ b ∨ ∃ (r0 : Nat) (e0 : Ent), H[r0]? = some e0 ∧ Blk E r0 e0 b ∧ (r0 = r ∨ r0 ∈ us.map (·.1))
theorem Out.same {E : Env} {w : World} {H : List Ent} (h : HR E w H) : Out E E w w H [] :=
 ⟨Ext.refl _ _, h, rfl, rfl, rfl, Nat.le_refl _, fun _ _ h => .inl h, fun _ cur T fz h => ⟨cur, T, fz, h, Nat.le_refl _⟩, fun _ _ _ => rfl, fun r e b hr hl => .inr ⟨r, e, hr, hl, .inl rfl⟩⟩
theorem HR.drew {E : Env} {w : World} {H : List Ent} (h : HR E w H) : HR E w.drew H := by
 have X : Ext E E w w.drew := ⟨fun _ => Nat.le_refl _, fun _ _ => rfl, fun _ _ => Iff.rfl, fun _ _ h => h, fun _ _ _ => rfl, fun _ cur T fz h => ⟨cur, T, fz, h, Nat.le_refl _⟩, fun _ _ _ _ h => h⟩
 exact ⟨h.ver, fun r e hr hl => (h.ent r e hr hl).ext X rfl, h.abs, h.inj, h.zlt, h.zrow, h.top, h.gl.ext X, fun r v ls hr => (h.pool r v ls hr).cong fun _ _ _ => rfl⟩
theorem Fr.out {w0 : World} {keep : Nat → Prop} {E E' : Env} {w w' : World} {H : List Ent} {us : List (Nat × Ent)} (h : Fr w0 keep E H w) (o : Out E E' w w' H us) : Fr w0 keep E' (updH H us) w' := by
 refine ⟨o.os.trans h.os, o.tape.trans h.tape, o.output.trans h.output, Nat.le_trans h.size o.size, fun k hk hkeep => ?_, fun k cur T fz hk => ?_, fun r e b hr hl hlt => ?_⟩
 ·rw [o.block k (Nat.lt_of_lt_of_le hk h.size) (fun r e hr hl _ => h.rows r e k hr hl hk hkeep)]
  exact h.block k hk hkeep
 ·obtain ⟨c1, T1, f1, h1, h2⟩ := h.grow k cur T fz hk
  obtain ⟨c2, T2, f2, h3, h4⟩ := o.grow k c1 T1 f1 h1
  exact ⟨c2, T2, f2, h3, Nat.le_trans h2 h4⟩
 ·rcases o.rows r e b hr hl with h1 | ⟨r0, e0, h2, h3, _⟩
  ·have := h.size; omega
  ·exact h.rows r0 e0 b h2 h3 hlt
def Env.set (E : Env) (r b v : Nat) : Env := { E with ρ := fun k => if k = r then b else E.ρ k, ver := fun k => if k = r then v else E.ver k, abs := fun k => if k = r then False else E.abs k }
theorem Env.set_abs (E : Env) (r b v : Nat) : ¬ (E.set r b v).abs r := by simp [Env.set]
theorem Env.set_abs_ne (E : Env) {r k : Nat} (b v : Nat) (h : k ≠ r) : (E.set r b v).abs k = E.abs k := by simp [Env.set, h]
theorem Env.set_ρ (E : Env) (r b v : Nat) : (E.set r b v).ρ r = b := by simp [Env.set]
theorem Env.set_ver (E : Env) (r b v : Nat) : (E.set r b v).ver r = v := by simp [Env.set]
theorem Env.set_ρ_ne (E : Env) {r k : Nat} (b v : Nat) (h : k ≠ r) : (E.set r b v).ρ k = E.ρ k := by simp [Env.set, h]
theorem Env.set_ver_ne (E : Env) {r k : Nat} (b v : Nat) (h : k ≠ r) : (E.set r b v).ver k = E.ver k := by simp [Env.set, h]
theorem Env.set_same (E : Env) {r b v : Nat} (hb : b = E.ρ r) (hv : v = E.ver r) (ha : ¬ E.abs r) : E.set r b v = E := by
 cases E with
 | mk ρ ver zone abs pl =>
  simp only [Env.set, Env.mk.injEq, true_and, and_true]
  refine ⟨funext fun k => ?_, funext fun k => ?_, funext fun k => ?_⟩ <;> split <;> simp_all
theorem Out.one {E : Env} {w w' : World} {H : List Ent} {r0 b v' : Nat} {e0 : Ent} {bd' : Bd} (hr : HR E w H) (h0 : H[r0]? = some e0) (hP : bd'.isP = false) (hv : v' = e0.ver ∧ b = E.ρ r0 ∧ ¬ E.abs r0 ∨ e0.ver < v')
    (hb : b = E.ρ r0 ∧ Liv E r0 e0 ∨ w.heap.size ≤ b) (os : w'.os = w.os) (tape : w'.tape = w.tape) (output : w'.output = w.output) (size : w.heap.size ≤ w'.heap.size)
    (blk : ∀ k, k < w.heap.size → k ≠ b → w'.heap[k]? = w.heap[k]?)
    (sz : ∀ cur T fz, w.heap[b]? = some (.cells cur T fz) → ∃ cur' T' fz', w'.heap[b]? = some (.cells cur' T' fz') ∧ cur.size ≤ cur'.size)
    (ent : Ext E (E.set r0 b v') w w' → EntRep (E.set r0 b v') w' b bd') : Out E (E.set r0 b v') w w' H [(r0, ⟨v', bd'⟩)] := by
 have hver := hr.ver r0 e0 h0
 have hlt0 : r0 < H.length := (List.getElem?_eq_some_iff.1 h0).1
 have hnz : ∀ z c, E.zone z c → c ≠ b := by
  intro z c hz e
  subst e
  rcases hb with ⟨h1, h2⟩ | h1
  ·exact hr.zrowL r0 e0 h0 h2 z (h1 ▸ hz)
  ·have := hr.zlt z c hz; omega
 have gr : ∀ (k : Nat) cur T fz, w.heap[k]? = some (.cells cur T fz) → ∃ cur' T' fz', w'.heap[k]? = some (.cells cur' T' fz') ∧ cur.size ≤ cur'.size := fun k cur T fz hk => by
  by_cases h : k = b
  ·subst h; exact sz cur T fz hk
  ·exact ⟨cur, T, fz, by rw [blk k (Array.getElem?_eq_some_iff.1 hk).1 h]; exact hk, Nat.le_refl _⟩
 have X : Ext E (E.set r0 b v') w w' := by
  refine ⟨fun r => ?_, fun r e => ?_, fun r e => ?_, fun z c h => h, fun z c hz => blk c (hr.zlt z c hz) (hnz z c hz), gr, fun _ _ _ _ h => h⟩
  ·by_cases h : r = r0
   ·subst h; rw [Env.set_ver, hver]; rcases hv with h | h <;> omega
   ·rw [Env.set_ver_ne E b v' h]; exact Nat.le_refl _
  ·by_cases h : r = r0
   ·subst h; rw [Env.set_ver] at e; rw [Env.set_ρ]; rcases hv with h | h
    ·exact h.2.1
    ·omega
   ·rw [Env.set_ρ_ne E b v' h]
  ·by_cases h : r = r0
   ·subst h; rw [Env.set_ver] at e; rcases hv with h | h
    ·exact ⟨fun q => absurd q (Env.set_abs E r b v'), fun q => absurd q h.2.2⟩
    ·omega
   ·rw [Env.set_abs_ne E b v' h]
 have hget : ∀ (r : Nat) (e : Ent), (updH H [(r0, ⟨v', bd'⟩)])[r]? = some e → r = r0 ∧ e = ⟨v', bd'⟩ ∨ r ≠ r0 ∧ H[r]? = some e := by
  intro r e h
  simp only [updH, setL_eq] at h
  by_cases hrr : r = r0
  ·subst hrr; rw [List.getElem?_set_self hlt0] at h; exact .inl ⟨rfl, (Option.some.inj h).symm⟩
  ·rw [List.getElem?_set_ne (Ne.symm hrr)] at h; exact .inr ⟨hrr, h⟩
 have hne : ∀ (r : Nat) (e : Ent), r ≠ r0 → H[r]? = some e → ¬ Blk E r e b := by
  intro r e h1 h2 h3
  rcases hb with ⟨h5, h6⟩ | h5
  ·exact h1 (hr.inj r r0 e e0 b h2 h0 h3 (.inl ⟨h6, h5.symm⟩))
  ·have := hr.blt h2 h3; omega
 have hliv : ∀ (r : Nat) (e : Ent), r ≠ r0 → Liv (E.set r0 b v') r e → Liv E r e := fun r e h1 h2 => ⟨h2.1, fun q => h2.2 (by rw [Env.set_abs_ne E b v' h1]; exact q)⟩
 have hblk : ∀ (r : Nat) (e : Ent) (c : Nat), r ≠ r0 → Blk (E.set r0 b v') r e c → Blk E r e c := fun r e c h1 h2 => by
  rcases h2 with ⟨h2, h3⟩ | h2
  ·exact .inl ⟨hliv r e h1 h2, by rwa [Env.set_ρ_ne E b v' h1] at h3⟩
  ·exact .inr h2
 have hbl0 : ∀ c, Blk (E.set r0 b v') r0 ⟨v', bd'⟩ c → c = b := fun c h => by
  rcases h with ⟨_, h3⟩ | ⟨h2, _⟩
  ·rw [Env.set_ρ] at h3; exact h3.symm
  ·rw [hP] at h2; cases h2
 refine ⟨X, ⟨?_, ?_, ?_, ?_, ?_, ?_, ?_, hr.gl.ext X, ?_⟩, os, tape, output, size, fun _ _ h => .inl h, gr, ?_, ?_⟩
 ·intro r e h
  rcases hget r e h with ⟨rfl, rfl⟩ | ⟨h1, h2⟩
  ·rw [Env.set_ver]
  ·rw [Env.set_ver_ne E b v' h1]; exact hr.ver r e h2
 ·intro r e h hl
  rcases hget r e h with ⟨rfl, rfl⟩ | ⟨h1, h2⟩
  ·rw [Env.set_ρ]; exact ent X
  ·rw [Env.set_ρ_ne E b v' h1]
   have hl := hliv r e h1 hl
   exact (hr.ent r e h2 hl).ext X (blk _ (hr.lt h2 hl) (fun q => hne r e h1 h2 (q ▸ Blk.of hl)))
 ·intro r e h ha
  rcases hget r e h with ⟨rfl, rfl⟩ | ⟨h1, h2⟩
  ·exact absurd ha (Env.set_abs E r b v')
  ·rw [Env.set_abs_ne E b v' h1] at ha; exact hr.abs r e h2 ha
 ·intro r r' e e' c h h' hl hl'
  rcases hget r e h with ⟨rfl, rfl⟩ | ⟨h1, h2⟩ <;> rcases hget r' e' h' with ⟨rfl, rfl⟩ | ⟨h3, h4⟩
  ·rfl
  ·have := hbl0 c hl; subst this; exact absurd (hblk r' e' _ h3 hl') (hne r' e' h3 h4)
  ·have := hbl0 c hl'; subst this; exact absurd (hblk r e _ h1 hl) (hne r e h1 h2)
  ·exact hr.inj r r' e e' c h2 h4 (hblk r e c h1 hl) (hblk r' e' c h3 hl')
 ·exact fun z c h => Nat.lt_of_lt_of_le (hr.zlt z c h) size
 ·intro r e c h hl z hz
  rcases hget r e h with ⟨rfl, rfl⟩ | ⟨h1, h2⟩
  ·exact hnz z c hz (hbl0 c hl)
  ·exact hr.zrow r e c h2 (hblk r e c h1 hl) z hz
 ·intro r h
  simp only [updH, setL_eq, List.length_set] at h
  have hne : r ≠ r0 := by omega
  rw [Env.set_ver_ne E b v' hne, Env.set_abs_ne E b v' hne]
  exact hr.top r h
 ·intro r v ls h
  rcases hget r _ h with ⟨rfl, h1⟩ | ⟨h1, h2⟩
  ·cases h1; cases hP
  ·exact (hr.pool r v ls h2).cong fun i c hc => blk c ((hr.pool r v ls h2).lt hc) (fun q => hne r _ h1 h2 (q ▸ .inr ⟨rfl, i, hc⟩))
 ·intro k hk h
  by_cases hkb : k = b
  ·exfalso
   rcases hb with ⟨h1, h2⟩ | h1
   ·exact h r0 e0 h0 (.inl ⟨h2, by omega⟩) (by simp)
   ·omega
  ·exact blk k hk hkb
 ·intro r e c h hl
  rcases hget r e h with ⟨rfl, rfl⟩ | ⟨h1, h2⟩
  ·have := hbl0 c hl
   subst this
   rcases hb with ⟨h1, h2⟩ | h1
   ·exact .inr ⟨r, e0, h0, .inl ⟨h2, h1.symm⟩, .inl rfl⟩
   ·exact .inl h1
  ·exact .inr ⟨r, e, h2, hblk r e c h1 hl, .inl rfl⟩
end Go.Proofs.YtmjpbmcbcppkfaaGreatDoor

/-! Abstract values: each operation that reads or writes memory: what it makes of them, and that this is so. Conditions: what 'TIok' says of the types. -/
namespace Go.Proofs.YtmjpbmcbcppkfaaGreatDoor
set_option linter.unusedVariables false
set_option linter.unusedSimpArgs false
def opnds : Op → List Operand
 | .move x | .assign x | .box _ x | .load _ x | .nilCheck x | .unOp _ _ x | .convert _ _ x | .sliceToArrayPointer _ x | .fieldAddr _ x _ | .field _ x _ | .extract x _ | .makeInterface _ x => [x]
 | .pick c a b => [c, a, b]
 | .build _ ps | .buildSlice _ _ ps => ps.toList.map (·.2)
 | .store _ a v | .binOp _ _ a v _ | .makeSlice _ a v | .indexAddr _ a v | .index _ a v => [a, v]
 | .makeFunc _ first captured => first.toList ++ captured.toList
 | .slice _ x l h m => x :: (l.toList ++ (h.toList ++ m.toList))
 | .call c => (match c.callee with | .value f => [f] | _ => []) ++ c.args.toList
 | _ => []
def RunsTo (P : Program) (o : Oper) (ρv : Operand → Value) (w : World) (cv : Value) (w' : World) : Prop :=
 (execOp ρv o).run P w = .ok (.value cv) w' ∨ ((execOp ρv o).run P w = .ok .skip w' ∧ cv = undef)
def Snd (P : Program) (o : Oper) (ev : Operand → AV) (hg : Nat → Option Ent) (Φ : Prop) (v : AV) (us : List (Nat × Ent)) : Prop :=
 Φ → ∀ (E : Env) (H : List Ent) (w : World) (ρv : Operand → Value), HR E w H → (∀ (r : Nat) (e : Ent), hg r = some e → H[r]? = some e) → (∀ x ∈ opnds o.op, rep E w (ev x) (ρv x)) →
  ∃ cv w' E', RunsTo P o ρv w cv w' ∧ rep E' w' v cv ∧ Out E E' w w' H us
section
variable {P : Program} {o : Oper} {ev : Operand → AV} {hg : Nat → Option Ent}
theorem Snd.pure {Φ : Prop} {v : AV} (h : Φ → ∀ (E : Env) (H : List Ent) (w : World) (ρv : Operand → Value), HR E w H → (∀ (r : Nat) (e : Ent), hg r = some e → H[r]? = some e) → (∀ x ∈ opnds o.op, rep E w (ev x) (ρv x)) →
    ∃ cv, (execOp ρv o).run P w = .ok (.value cv) w ∧ rep E w v cv) : Snd P o ev hg Φ v [] :=
 fun p E H w ρv hr hh hx => let ⟨cv, h1, h2⟩ := h p E H w ρv hr hh hx; ⟨cv, w, E, .inl h1, h2, Out.same hr⟩

theorem rep_val {E : Env} {w : World} {u v : Value} (h : rep E w (.val u) v) : v = u := by rwa [rep] at h
theorem HR.cells {E : Env} {w : World} {H : List Ent} (hr : HR E w H) {r : Nat} {e : Ent} (h : H[r]? = some e) {i : Nat} {ys : List AV} (hy : e.bd.at i = some ys) :
    ∃ cs, cs.length = e.bd.sz ∧ reps E w ys cs ∧ ∀ j u, cs[j]? = some u → w.cell? ⟨E.ρ r, i * e.bd.sz + j, none⟩ = some u := by
 have hc : e.bd.cel = true := by cases hb : e.bd <;> simp [Bd.cel] <;> simp [hb, Bd.at] at hy
 have hl := Bd.live_of hc
 have hna : ¬ E.abs r := fun q => by have := hr.abs r e h q; have := Bd.at_lt hy; omega
 obtain ⟨cur, T, lo, hi, h1, h2, h3, h4⟩ := (hr.ent r e h ⟨hl, hna⟩).blk hc
 obtain ⟨cs, h5, h6, h7⟩ := h4 i ys hy
 exact ⟨cs, h5, h6, fun j u hu => by rw [cell_of_row w _ _ cur T (lo, hi) h1]; exact h7 j u hu⟩

theorem HR.plAt {E : Env} {w : World} {H : List Ent} (hr : HR E w H) {r v0 : Nat} {ls : List (List UInt8)} (he : H[r]? = some ⟨v0, .pool ls⟩) {ver i off n : Nat} {l : List UInt8} (hl : ls[i]? = some l) (hle : off + n ≤ l.length) (hver : ver = v0) {v : Value} (hv : rep E w (.pl r ver i off n) v) :
    ∃ a c, v = .slice a n c ∧ n ≤ c ∧ c ≤ maxLen ∧ (a = none → c = 0) ∧ ∀ (j : Nat) (x : UInt8), ((l.drop off).take n)[j]? = some x → ∃ b, E.pl r i = some b ∧ a = some ⟨b, off, none⟩ ∧ w.cell? ⟨b, off + j, none⟩ = some (bv x) := by
 rw [rep] at hv
 obtain ⟨a, c, h1, h2, h3, h4, h5⟩ := hv.2 (hver.trans (hr.ver r _ he).symm)
 refine ⟨a, c, h1, h2, h3, h4, fun j x hx => ?_⟩
 rw [List.getElem?_take] at hx
 split at hx
 rotate_left
 ·cases hx
 rename_i hj
 obtain ⟨b, h6, h7, _⟩ := h5.resolve_left (by omega)
 obtain ⟨cur, T, lo, hi, g1, _, _, g4⟩ := (hr.pool r v0 ls he).blk i l b hl h6
 refine ⟨b, h6, h7, ?_⟩
 rw [cell_of_row w _ _ cur T (lo, hi) g1]
 rw [List.getElem?_drop] at hx
 exact g4 _ x hx

/-! what a variable of a type holds, out of its cells -/
def cvK (ti : TI) (cs : List AV) (K : Prop → AV → Prop) : Prop :=
 match ti.u with
 | .other => False
 | .struct _ => K (ti.sz ≤ cs.length) (.agg (takeL cs ti.sz))
 | .array _ _ => K (ti.sz ≤ cs.length) (.agg (takeL cs ti.sz))
 | _ => match cs with
  | x :: _ => K True x
  | [] => False
theorem TIok.sizeOf {T : TypeId} {ti : TI} (h : TIok P T ti) (w : World) : (sizeOf T).run P w = .ok ti.sz w := by
 obtain ⟨z, hz, _⟩ := h.info
 obtain ⟨i, hi, h1, h2, h3⟩ := info_parts hz
 simp [Go.sizeOf, typeInfo, hi, h2]
theorem TIok.aggTy {T : TypeId} {ti : TI} (h : TIok P T ti) (hu : ti.u.isAgg = true) : AggTy P T ti.sz := by
 obtain ⟨z, hz, _⟩ := h.info
 obtain ⟨i, hi, h1, h2, h3⟩ := info_parts hz
 have hk := h.u
 refine ⟨?_, by rw [hi]; simp [h2]⟩
 cases hq : ti.u <;> simp [hq, UK.isAgg] at hu <;> rw [hq] at hk <;> simp only [UK.ok] at hk
 ·rw [hk]
 ·obtain ⟨f, hf, _⟩ := hk; rw [hf]
theorem TIok.notAgg {T : TypeId} {ti : TI} (h : TIok P T ti) (hu : ti.u.isAgg = false) (ho : ti.u ≠ .other) (w : World) : (isAgg T).run P w = .ok false w := by
 have hk := h.u
 unfold Go.isAgg
 cases hq : ti.u <;> rw [hq] at hk hu ho <;> simp only [UK.ok] at hk <;> simp [UK.isAgg] at hu ho
 case func => obtain ⟨a, b, c, hk⟩ := hk; rw [Sem.run_bind, run_underlying hk w]; rfl
 case iface => obtain ⟨ms, hk⟩ := hk; rw [Sem.run_bind, run_underlying hk w]; rfl
 all_goals (rw [Sem.run_bind, run_underlying hk w]; rfl)
theorem reps_drop {E : Env} {w : World} : ∀ (n : Nat) {xs : List AV} {vs : List Value}, reps E w xs vs → reps E w (xs.drop n) (vs.drop n)
 | 0, _, _, h => h
 | n + 1, [], vs, h => by rw [reps] at h; subst h; simp [reps]
 | n + 1, x :: xs, vs, h => by
  rw [reps] at h
  obtain ⟨v, vs', rfl, h1, h2⟩ := h
  simpa using reps_drop n h2
theorem reps_take {E : Env} {w : World} : ∀ (n : Nat) {xs : List AV} {vs : List Value}, reps E w xs vs → reps E w (xs.take n) (vs.take n)
 | 0, _, _, h => by simp [reps]
 | n + 1, [], vs, h => by rw [reps] at h; subst h; simp [reps]
 | n + 1, x :: xs, vs, h => by
  rw [reps] at h
  obtain ⟨v, vs', rfl, h1, h2⟩ := h
  simp only [List.take_succ_cons]
  rw [reps]
  exact ⟨v, _, rfl, h1, reps_take n h2⟩
theorem cv_load {T : TypeId} {ti : TI} {cells : List AV} {j : Nat} {K : Prop → AV → Prop} (ht : TIok P T ti) (h : cvK ti (dropL cells j) K) :
    ∃ Φ v, K Φ v ∧ (Φ → ∀ (E : Env) (w : World) (cs : List Value), reps E w cells cs → ∃ cv, rep E w v cv ∧ (part T cs.toArray j).run P w = .ok cv w ∧
     ∀ (b o : Nat), (∀ j u, cs[j]? = some u → w.cell? ⟨b, o + j, none⟩ = some u) → (loadVar T ⟨b, o + j, none⟩).run P w = .ok cv w) := by
 rw [dropL_eq] at h
 have key : (∃ Φ v, K Φ v ∧ (Φ → ti.u.isAgg = true ∧ ti.sz ≤ (cells.drop j).length ∧ v = .agg (takeL (cells.drop j) ti.sz) ∨ ti.u.isAgg = false ∧ ti.u ≠ .other ∧ (cells.drop j).head? = some v)) := by
  unfold cvK at h
  split at h
  ·exact h.elim
  ·rename_i hu; exact ⟨_, _, h, fun p => .inl ⟨by rw [hu]; rfl, p, rfl⟩⟩
  ·rename_i hu; exact ⟨_, _, h, fun p => .inl ⟨by rw [hu]; rfl, p, rfl⟩⟩
  ·rename_i h1 h2 h3
   split at h
   ·rename_i x xs hx
    refine ⟨_, _, h, fun _ => .inr ⟨?_, h1, by rw [hx]; rfl⟩⟩
    cases hq : ti.u <;> simp_all [UK.isAgg]
   ·exact h.elim
 obtain ⟨Φ, v, hK, hv⟩ := key
 refine ⟨Φ, v, hK, fun p E w cs hc => ?_⟩
 rcases hv p with ⟨h1, h2, rfl⟩ | ⟨h1, h2, h3⟩
 ·have A := ht.aggTy h1
  have hd := reps_take ti.sz (reps_drop j hc)
  have hlen := (reps_get (reps_drop j hc)).1
  have hl : ((cs.drop j).take ti.sz).length = ti.sz := by rw [List.length_take]; omega
  rw [takeL_eq]
  refine ⟨.agg ((cs.drop j).take ti.sz).toArray, by rw [rep]; exact ⟨_, rfl, hd⟩, ?_, fun b o hcell => run_loadVar_at A hl (fun k u hu => ?_)⟩
  rotate_left
  ·rw [Addr.add_lit]
   rw [List.getElem?_take] at hu
   split at hu
   ·rw [List.getElem?_drop] at hu
    rw [Nat.add_assoc]
    exact hcell _ u hu
   ·cases hu
  ·unfold part
   have e : cs.toArray.extract j (j + ti.sz) = ((cs.drop j).take ti.sz).toArray := by
    apply Array.ext'; simp
   simp only [Sem.run_bind, A.isAgg, A.sizeOf, Result.andThen_ok, if_true, Sem.run_pure, e]
 ·obtain ⟨u, hu, hr⟩ := (reps_get (reps_drop j hc)).2 0 v (by rw [← List.head?_eq_getElem?]; exact h3)
  rw [List.getElem?_drop, Nat.add_zero] at hu
  refine ⟨u, hr, ?_, fun b o hcell => ?_⟩
  ·unfold part
   simp [Sem.run_bind, ht.notAgg h1 h2, hu]
  ·unfold loadVar
   simp [Sem.run_bind, ht.notAgg h1 h2, hcell j u hu]

/-! load -/
def bdK (bd : Bd) (sz i : Nat) (K : Prop → List AV → Prop) : Prop := match bd with
 | .dead => False
 | .bytes l => K (sz = 1 ∧ i < l.length) [.val (.int .u8 (l.getD i 0).toNat)]
 | .row sz' f d l => K (sz = sz' ∧ i < l.length) (f (l.getD i d))
 | .obj l => K (i = 0) l
 | .lp .. => False
 | .pool _ => False
theorem bdK_sound {bd : Bd} {sz i : Nat} {K : Prop → List AV → Prop} (h : bdK bd sz i K) : ∃ Φ ys, K Φ ys ∧ (Φ → bd.at i = some ys ∧ i * sz = i * bd.sz) := by
 cases bd <;> simp only [bdK] at h
 ·refine ⟨_, _, h, fun p => ⟨?_, by rw [p.1]; rfl⟩⟩
  simp [Bd.at, p.2, bv, List.getD]
 ·refine ⟨_, _, h, fun p => ⟨?_, by rw [p.1]; rfl⟩⟩
  simp [Bd.at, p.2, List.getD]
 ·exact ⟨_, _, h, fun p => ⟨by simp [Bd.at, p], by simp [p]⟩⟩
def loadK (tb : TypeId → Option TI) (hg : Nat → Option Ent) (T : TypeId) (x : AV) (K : KF) : Prop :=
 match tb T with
 | none => False
 | some ti => match x with
  | .ref r ver sz i j => match hg r with
   | none => False
   | some e => bdK e.bd sz i fun Φ cells => cvK ti (dropL cells j) fun Ψ v => K (ver = e.ver ∧ Φ ∧ Ψ) v []
  | .cp _ cells j => cvK ti (dropL cells j) fun Ψ v => K Ψ v []
  | .plr r ver i k => match hg r with
   | none => False
   | some e => match e.bd with
    | .pool ls => cvK ti [.val (.int .u8 ((ls.getD i []).getD k 0).toNat)] fun Ψ v => K (ver = e.ver ∧ i < ls.length ∧ k < (ls.getD i []).length ∧ Ψ) v []
    | _ => False
  | _ => False
theorem load_sound {tb : TypeId → Option TI} (htb : TbOk P tb) {T : TypeId} {x : Operand} (ho : o.op = .load T x) {K : KF} (h : loadK tb hg T (ev x) K) : ∃ Φ v us, K Φ v us ∧ Snd P o ev hg Φ v us := by
 unfold loadK at h
 split at h
 ·exact h.elim
 rename_i ti hti
 have ht := htb T ti hti
 split at h
 ·rename_i r ver sz i j hx
  split at h
  ·exact h.elim
  rename_i e he
  obtain ⟨Φ, ys, h, hb⟩ := bdK_sound h
  obtain ⟨Ψ, v, h, hl⟩ := cv_load ht h
  refine ⟨_, v, [], h, Snd.pure fun p E H w ρv hr hh hops => ?_⟩
  obtain ⟨p1, p2, p3⟩ := p
  have hv := hops x (by rw [ho]; simp [opnds])
  rw [hx, rep] at hv
  have hH := hh r e he
  have hpt := hv.2 (p1.trans (hr.ver r e hH).symm)
  obtain ⟨hb1, hb2⟩ := hb p2
  obtain ⟨cs, h5, h6, h7⟩ := hr.cells hH hb1
  obtain ⟨cv, hc2, _, hc1⟩ := hl p3 E w cs h6
  have hc1 := hc1 (E.ρ r) (i * e.bd.sz) h7
  refine ⟨cv, ?_, hc2⟩
  rw [hb2] at hpt
  exact exec_load ho hpt hc1
 ·rename_i z cells j hx
  obtain ⟨Ψ, v, h, hl⟩ := cv_load ht h
  refine ⟨_, v, [], h, Snd.pure fun p E H w ρv hr hh hops => ?_⟩
  have hv := hops x (by rw [ho]; simp [opnds])
  rw [hx, rep] at hv
  obtain ⟨b, o', cs, hpt, _, h6, h7⟩ := hv
  obtain ⟨cv, hc2, _, hc1⟩ := hl p E w cs h6
  have hc1 := hc1 b o' h7
  exact ⟨cv, exec_load ho hpt hc1, hc2⟩
 ·rename_i r ver i k hx
  split at h
  ·exact h.elim
  rename_i e he
  split at h
  rotate_left
  ·exact h.elim
  rename_i ls hb
  obtain ⟨Ψ, v, h, hl⟩ := cv_load (cells := [.val (.int .u8 ((ls.getD i []).getD k 0).toNat)]) (j := 0) ht h
  refine ⟨_, v, [], h, Snd.pure fun p E H w ρv hr hh hops => ?_⟩
  obtain ⟨p1, p2, p3, p4⟩ := p
  have hv := hops x (by rw [ho]; simp [opnds])
  rw [hx, rep] at hv
  have hH := hh r e he
  obtain ⟨b, h1, hpt⟩ := hv.2 (p1.trans (hr.ver r e hH).symm)
  have hH' : H[r]? = some ⟨e.ver, .pool ls⟩ := by rw [hH, ← hb]
  have hli : ls[i]? = some (ls.getD i []) := by simp [List.getD, p2]
  obtain ⟨cur, T0, lo, hi, g1, _, _, g4⟩ := (hr.pool r _ ls hH').blk i _ b hli h1
  have g5 := g4 k ((ls.getD i []).getD k 0) (by simp only [List.getD_eq_getElem?_getD]; rw [List.getElem?_eq_getElem (by simpa [List.getD_eq_getElem?_getD] using p3)]; simp)
  obtain ⟨cv, hc2, _, hc1⟩ := hl p4 E w [bv ((ls.getD i []).getD k 0)] (by simp only [reps, rep]; exact ⟨_, _, rfl, rfl, rfl⟩)
  have hc1 := hc1 b k (fun j u hu => by
   cases j with
   | zero => simp at hu; subst hu; rw [cell_of_row w _ _ cur T0 (lo, hi) g1]; exact g5
   | succ j => simp at hu)
  exact ⟨cv, exec_load ho hpt hc1, hc2⟩
 ·exact h.elim

/-! nilCheck, addresses -/
def curK (hg : Nat → Option Ent) (r ver : Nat) (K : Prop → Prop) : Prop := match hg r with
 | none => False
 | some e => K (ver = e.ver)
theorem curK_sound {r ver : Nat} {K : Prop → Prop} (h : curK hg r ver K) : ∃ Φ, K Φ ∧ (Φ → ∀ (E : Env) (H : List Ent) (w : World), HR E w H → (∀ (r : Nat) (e : Ent), hg r = some e → H[r]? = some e) → ver = E.ver r) := by
 unfold curK at h
 split at h
 ·exact h.elim
 ·rename_i e he
  exact ⟨_, h, fun p E H w hr hh => p.trans (hr.ver r e (hh r e he)).symm⟩
def nilK (hg : Nat → Option Ent) (x : AV) (K : KF) : Prop := match x with
 | .ref r ver sz i j => curK hg r ver fun Φ => K Φ (.ref r ver sz i j) []
 | .cp z cells j => K True (.cp z cells j) []
 | .clo f caps => K True (.clo f caps) []
 | .val (.pointer none) => K False .any []
 | _ => False
theorem nil_sound {x : Operand} (ho : o.op = .nilCheck x) {K : KF} (h : nilK hg (ev x) K) : ∃ Φ v us, K Φ v us ∧ Snd P o ev hg Φ v us := by
 unfold nilK at h
 split at h
 ·rename_i r ver sz i j hx
  obtain ⟨Φ, h, hc⟩ := curK_sound h
  refine ⟨Φ, _, [], h, Snd.pure fun p E H w ρv hr hh hops => ?_⟩
  have hv := hops x (by rw [ho]; simp [opnds])
  rw [hx] at hv
  refine ⟨ρv x, ?_, hv⟩
  rw [rep] at hv
  have hpt := hv.2 (hc p E H w hr hh)
  unfold execOp; simp only [ho, hpt, Sem.run_pure]
 ·rename_i z cells j hx
  refine ⟨_, _, [], h, Snd.pure fun p E H w ρv hr hh hops => ?_⟩
  have hv := hops x (by rw [ho]; simp [opnds])
  rw [hx] at hv
  refine ⟨ρv x, ?_, hv⟩
  rw [rep] at hv
  obtain ⟨b, o', cs, hpt, _⟩ := hv
  unfold execOp; simp only [ho, hpt, Sem.run_pure]
 ·rename_i f caps hx
  refine ⟨_, _, [], h, Snd.pure fun p E H w ρv hr hh hops => ?_⟩
  have hv := hops x (by rw [ho]; simp [opnds])
  rw [hx] at hv
  refine ⟨ρv x, ?_, hv⟩
  rw [rep] at hv
  obtain ⟨cs, hpt, _⟩ := hv
  unfold execOp; simp only [ho, hpt, Sem.run_pure]
 ·exact ⟨_, _, _, h, fun p => p.elim⟩
 ·exact h.elim
def fieldOf (tb : TypeId → Option TI) (T k : Nat) (K : Nat → TI → TypeId → Prop) : Prop := match tb T with
 | some ti => match ti.u with
  | .struct fs => match fs[k]? with
   | some (off, ft) => match tb ft with
    | some fi => K off fi ft
    | none => False
   | none => False
  | _ => False
 | none => False
theorem fieldOf_sound {tb : TypeId → Option TI} (htb : TbOk P tb) {T k : Nat} {K : Nat → TI → TypeId → Prop} (h : fieldOf tb T k K) :
    ∃ off fi flds f, K off fi f.type ∧ P.underlying T = some (.struct flds) ∧ flds[k]? = some f ∧ f.offset = off ∧ TIok P f.type fi := by
 unfold fieldOf at h
 repeat (split at h; rotate_left; (try exact h.elim))
 all_goals (try exact h.elim)
 rename_i ti hti _ fs hfs _ off ft hk _ fi hfi
 have ht := (htb T ti hti).u
 rw [hfs] at ht
 obtain ⟨flds, h1, h2⟩ := ht
 rw [← h2, List.getElem?_map] at hk
 obtain ⟨f, hf, he⟩ := Option.map_eq_some_iff.1 hk
 cases he
 exact ⟨_, fi, flds, f, h, h1, by simpa using hf, rfl, htb _ _ hfi⟩
def fieldAddrK (tb : TypeId → Option TI) (hg : Nat → Option Ent) (T : TypeId) (x : AV) (k : Nat) (K : KF) : Prop :=
 fieldOf tb T k fun off fi _ => match x with
  | .ref r ver sz i j => curK hg r ver fun Φ => K (Φ ∧ fi.sz ≠ 0) (.ref r ver sz i (j + off)) []
  | .cp z cells j => K (fi.sz ≠ 0) (.cp z cells (j + off)) []
  | _ => False
theorem fieldAddr_sound {tb : TypeId → Option TI} (htb : TbOk P tb) {T : TypeId} {x : Operand} {k : Nat} (ho : o.op = .fieldAddr T x k) {K : KF} (h : fieldAddrK tb hg T (ev x) k K) : ∃ Φ v us, K Φ v us ∧ Snd P o ev hg Φ v us := by
 obtain ⟨off, fi, flds, f, h, hu, hf, hoff, hfi⟩ := fieldOf_sound htb h
 have hrun : ∀ (w : World) (ρv : Operand → Value) (b o' : Nat), fi.sz ≠ 0 → ρv x = .pointer (some ⟨b, o', none⟩) → (execOp ρv o).run P w = .ok (.value (.pointer (some ⟨b, o' + off, none⟩))) w := by
  intro w ρv b o' hz hx
  unfold execOp
  simp only [ho, hx]
  unfold Instr.fieldAt fieldPlace
  simp [Sem.run_bind, run_underlying hu, hf, Instr.sureAddr, hfi.sizeOf, hz, hoff, Addr.add_lit]
 split at h
 ·rename_i r ver sz i j hx
  obtain ⟨Φ, h, hc⟩ := curK_sound h
  refine ⟨_, _, [], h, Snd.pure fun p E H w ρv hr hh hops => ?_⟩
  have hv := hops x (by rw [ho]; simp [opnds])
  rw [hx, rep] at hv
  have hpt := hv.2 (hc p.1 E H w hr hh)
  refine ⟨_, hrun w ρv _ _ p.2 hpt, ?_⟩
  rw [rep]
  exact ⟨hv.1, fun _ => by rw [Nat.add_assoc]⟩
 ·rename_i z cells j hx
  refine ⟨_, _, [], h, Snd.pure fun p E H w ρv hr hh hops => ?_⟩
  have hv := hops x (by rw [ho]; simp [opnds])
  rw [hx, rep] at hv
  obtain ⟨b, o', cs, hpt, h1, h2, h3⟩ := hv
  refine ⟨_, hrun w ρv _ _ p hpt, ?_⟩
  rw [rep]
  exact ⟨b, o', cs, by rw [Nat.add_assoc], h1, h2, h3⟩
 ·exact h.elim
end
end Go.Proofs.YtmjpbmcbcppkfaaGreatDoor

/-! Abstract values: index, slice, len, numbers, parts. Conditions: what 'TIok' says of the types. -/
namespace Go.Proofs.YtmjpbmcbcppkfaaGreatDoor
set_option linter.unusedVariables false
set_option linter.unusedSimpArgs false
section
variable {P : Program} {o : Oper} {ev : Operand → AV} {hg : Nat → Option Ent}
/-! index -/
def szOf (tb : TypeId → Option TI) (E : TypeId) (K : Nat → Prop) : Prop := match tb E with
 | some ti => K ti.sz
 | none => False
theorem szOf_sound {tb : TypeId → Option TI} (htb : TbOk P tb) {E : TypeId} {K : Nat → Prop} (h : szOf tb E K) : ∃ ti, K ti.sz ∧ TIok P E ti := by
 unfold szOf at h
 split at h
 ·rename_i ti hti; exact ⟨ti, h, htb _ _ hti⟩
 ·exact h.elim
def intF (k : IntKind) : Int → List AV := fun n => [.val (.int k n)]
def intsOf (k : IntKind) : List AV → Option (List Int)
 | [] => some []
 | .val (.int k' n) :: l => if k' = k then match intsOf k l with
     | some ns => some (n :: ns)
     | none => none
  else none
 | _ :: _ => none
theorem intsOf_sound {k : IntKind} : ∀ {l : List AV} {ns : List Int}, intsOf k l = some ns → l = ns.map fun n => .val (.int k n)
 | [], ns, h => by simp [intsOf] at h; subst h; rfl
 | x :: l, ns, h => by
  unfold intsOf at h
  split at h
  ·cases h; rename_i h1; cases h1
  ·rename_i k' n l' h1
   cases h1
   split at h
   ·rename_i hk
    split at h
    ·rename_i ns' hns
     cases h
     rw [intsOf_sound hns, hk]; rfl
    ·cases h
   ·cases h
  ·cases h
def intsAny : List AV → Option (IntKind × List Int)
 | .val (.int k n) :: l => match intsOf k (.val (.int k n) :: l) with
  | some ns => some (k, ns)
  | none => none
 | _ => none
theorem intsAny_sound {k : IntKind} {l : List AV} {ns : List Int} (h : intsAny l = some (k, ns)) : l = ns.map fun n => .val (.int k n) := by
 unfold intsAny at h
 split at h
 ·split at h
  ·rename_i hns
   cases h
   exact intsOf_sound hns
  ·cases h
 ·cases h
def indexAddrK (tb : TypeId → Option TI) (hg : Nat → Option Ent) (T : TypeId) (x y : AV) (K : KF) : Prop :=
 match tb T with
 | none => False
 | some ti => match y with
  | .val (.int k n) => match ti.u with
   | .slice E => szOf tb E fun s => match x with
    | .own r ver sz off m => curK hg r ver fun Φ => K (Φ ∧ sz = s ∧ 0 ≤ n ∧ n < m) (.ref r ver sz (off + n.toNat) 0) []
    | .bs z l => K (s = 1 ∧ 0 ≤ n ∧ n < l.length) (.cp z [.val (.int .u8 (l.getD n.toNat 0).toNat)] 0) []
    | .sl z sz f d l => K (sz = s ∧ 0 ≤ n ∧ n < l.length) (.cp z (f (l.getD n.toNat d)) 0) []
    | .pl r ver i off m => curK hg r ver fun Φ => K (Φ ∧ s = 1 ∧ 0 ≤ n ∧ n < m) (.plr r ver i (off + n.toNat)) []
    | _ => False
   | .array m E => szOf tb E fun s => match x with
    | .ref r ver sz i j => curK hg r ver fun Φ => K (Φ ∧ 0 ≤ n ∧ n < m) (.ref r ver sz i (j + n.toNat * s)) []
    | .cp z cells j => match intsAny cells with
     | some (kk, ns) => K (0 ≤ n ∧ n < m ∧ s = 1 ∧ j = 0 ∧ m ≤ ns.length) (.cp z [.val (.int kk (ns.getD n.toNat 0))] 0) []
     | none => K (0 ≤ n ∧ n < m) (.cp z cells (j + n.toNat * s)) []
    | _ => False
   | _ => False
  | _ => False
theorem run_indexAt_slice {T E : TypeId} {ti : TI} (hT : P.underlying T = some (.slice E)) (hE : TIok P E ti) {k : IntKind} {n : Int} {m c b o' : Nat} (h0 : 0 ≤ n) (h1 : n < m) (w : World) :
    (Instr.indexAt T (.slice (some ⟨b, o', none⟩) m c) (.int k n)).run P w = .ok (.pointer (some ⟨b, o' + n.toNat * ti.sz, none⟩)) w := by
 unfold Instr.indexAt
 simp [Sem.run_bind, asIntOf, run_underlying hT, h0, h1, hE.sizeOf, Addr.add_lit]
theorem run_indexAt_array {T E : TypeId} {ti : TI} {m : Nat} (hT : P.underlying T = some (.array m E)) (hE : TIok P E ti) {k : IntKind} {n : Int} {b o' : Nat} (h0 : 0 ≤ n) (h1 : n < m) (w : World) :
    (Instr.indexAt T (.pointer (some ⟨b, o', none⟩)) (.int k n)).run P w = .ok (.pointer (some ⟨b, o' + n.toNat * ti.sz, none⟩)) w := by
 unfold Instr.indexAt
 simp [Sem.run_bind, asIntOf, run_underlying hT, h0, h1, hE.sizeOf, Addr.add_lit, Instr.sureAddr]
theorem indexAddr_sound {tb : TypeId → Option TI} (htb : TbOk P tb) {T : TypeId} {x y : Operand} (ho : o.op = .indexAddr T x y) {K : KF} (h : indexAddrK tb hg T (ev x) (ev y) K) : ∃ Φ v us, K Φ v us ∧ Snd P o ev hg Φ v us := by
 unfold indexAddrK at h
 split at h
 ·exact h.elim
 rename_i ti hti
 have hT := (htb T ti hti).u
 split at h
 rotate_left
 ·exact h.elim
 rename_i k n hy
 have hops2 : ∀ {E : Env} {w : World} {ρv : Operand → Value}, (∀ x ∈ opnds o.op, rep E w (ev x) (ρv x)) → rep E w (ev x) (ρv x) ∧ ρv y = .int k n := by
  intro E w ρv hops
  refine ⟨hops x (by rw [ho]; simp [opnds]), ?_⟩
  have := hops y (by rw [ho]; simp [opnds])
  rw [hy] at this
  exact rep_val this
 have hex : ∀ {w : World} {ρv : Operand → Value} {v : Value}, (Instr.indexAt T (ρv x) (ρv y)).run P w = .ok v w → (execOp ρv o).run P w = .ok (.value v) w := by
  intro w ρv v hr
  unfold execOp
  simp only [ho, Sem.run_bind, hr, Result.andThen_ok, Sem.run_pure]
 split at h
 ·rename_i E hu
  rw [hu] at hT
  obtain ⟨ei, h, hE⟩ := szOf_sound htb h
  split at h
  ·rename_i r ver sz off m hx
   obtain ⟨Φ, h, hc⟩ := curK_sound h
   refine ⟨_, _, [], h, Snd.pure fun p E' H w ρv hr hh hops => ?_⟩
   obtain ⟨p1, p2, p3, p4⟩ := p
   obtain ⟨hv, hn⟩ := hops2 hops
   rw [hx, rep] at hv
   obtain ⟨a, c, hsl, h1, h2, h2', h3⟩ := hv.2 (hc p1 E' H w hr hh)
   have hc0 : c ≠ 0 := by omega
   obtain ⟨_, rfl, _⟩ := h3.resolve_left hc0
   have hrun := run_indexAt_slice (k := k) (c := c) (b := E'.ρ r) (o' := off * sz) (m := m) hT hE p3 p4 w
   refine ⟨_, hex (by rw [hsl, hn]; exact hrun), ?_⟩
   rw [rep]
   refine ⟨hv.1, fun _ => ?_⟩
   rw [p2, Nat.add_mul, Nat.add_zero]
  ·rename_i z l hx
   refine ⟨_, _, [], h, Snd.pure fun p E' H w ρv hr hh hops => ?_⟩
   obtain ⟨p1, p2, p3⟩ := p
   obtain ⟨hv, hn⟩ := hops2 hops
   rw [hx, rep] at hv
   obtain ⟨a, m, c, hsl, rfl, h1, h2, h3, h4⟩ := hv
   have hlt : n.toNat < l.length := by omega
   obtain ⟨b, o', rfl, hz, hcell⟩ := h4 n.toNat l[n.toNat] (List.getElem?_eq_getElem hlt)
   have hrun := run_indexAt_slice (k := k) (c := c) (b := b) (o' := o') (m := l.length) hT hE p2 p3 w
   refine ⟨_, hex (by rw [hsl, hn]; exact hrun), ?_⟩
   rw [rep]
   refine ⟨b, o' + n.toNat, [bv l[n.toNat]], by rw [p1]; simp, hz, ?_, ?_⟩
   ·simp only [reps, rep]
    exact ⟨_, _, rfl, by simp [bv, List.getD, hlt], rfl⟩
   ·intro j u hu
    cases j with
    | zero => simp at hu; subst hu; exact hcell
    | succ j => simp at hu
  ·rename_i z sz α f d l hx
   refine ⟨_, _, [], h, Snd.pure fun p E' H w ρv hr hh hops => ?_⟩
   obtain ⟨p1, p2, p3⟩ := p
   obtain ⟨hv, hn⟩ := hops2 hops
   rw [hx, rep] at hv
   obtain ⟨a, m, c, hsl, rfl, h1, h2, h3, h4⟩ := hv
   have hlt : n.toNat < l.length := by omega
   obtain ⟨b, o', cs, rfl, hz, hcl, hcs, hcell⟩ := h4 n.toNat l[n.toNat] (List.getElem?_eq_getElem hlt)
   have hrun := run_indexAt_slice (k := k) (c := c) (b := b) (o' := o') (m := l.length) hT hE p2 p3 w
   refine ⟨_, hex (by rw [hsl, hn]; exact hrun), ?_⟩
   rw [rep]
   refine ⟨b, o' + n.toNat * sz, cs, by rw [p1]; simp, hz, ?_, hcell⟩
   simpa [List.getD, hlt] using hcs
  ·rename_i r ver i off m hx
   obtain ⟨Φ, h, hc⟩ := curK_sound h
   refine ⟨_, _, [], h, Snd.pure fun p E' H w ρv hr hh hops => ?_⟩
   obtain ⟨p1, p2, p3, p4⟩ := p
   obtain ⟨hv, hn⟩ := hops2 hops
   rw [hx, rep] at hv
   obtain ⟨a, c, hsl, h1, h2, h2', h3⟩ := hv.2 (hc p1 E' H w hr hh)
   obtain ⟨b, hb, rfl, _⟩ := h3.resolve_left (by omega)
   have hrun := run_indexAt_slice (k := k) (c := c) (b := b) (o' := off) (m := m) hT hE p3 p4 w
   refine ⟨_, hex (by rw [hsl, hn]; exact hrun), ?_⟩
   rw [rep]
   refine ⟨hv.1, fun _ => ⟨b, hb, ?_⟩⟩
   rw [p2, Nat.mul_one]
  ·exact h.elim
 ·rename_i m E hu
  rw [hu] at hT
  obtain ⟨ei, h, hE⟩ := szOf_sound htb h
  split at h
  ·rename_i r ver sz i j hx
   obtain ⟨Φ, h, hc⟩ := curK_sound h
   refine ⟨_, _, [], h, Snd.pure fun p E' H w ρv hr hh hops => ?_⟩
   obtain ⟨p1, p3, p4⟩ := p
   obtain ⟨hv, hn⟩ := hops2 hops
   rw [hx, rep] at hv
   have hpt := hv.2 (hc p1 E' H w hr hh)
   have hrun := run_indexAt_array (k := k) (b := E'.ρ r) (o' := i * sz + j) hT hE p3 p4 w
   refine ⟨_, hex (by rw [hpt, hn]; exact hrun), ?_⟩
   rw [rep]
   exact ⟨hv.1, fun _ => by rw [Nat.add_assoc]⟩
  ·rename_i z cells j hx
   split at h
   ·rename_i kk ns hns
    refine ⟨_, _, [], h, Snd.pure fun p E' H w ρv hr hh hops => ?_⟩
    obtain ⟨p1, p2, p3, rfl, p5⟩ := p
    obtain ⟨hv, hn⟩ := hops2 hops
    rw [hx, rep] at hv
    obtain ⟨b, o', cs, hpt, hz, hcs, hcell⟩ := hv
    have hrun := run_indexAt_array (k := k) (b := b) (o' := o' + 0) hT hE p1 p2 w
    refine ⟨_, hex (by rw [hpt, hn]; exact hrun), ?_⟩
    have hlt : n.toNat < ns.length := by omega
    have hcl : cells[n.toNat]? = some (.val (.int kk ns[n.toNat])) := by rw [intsAny_sound hns]; simp [hlt]
    have hlt2 : n.toNat < cs.length := by rw [← (reps_get hcs).1, intsAny_sound hns]; simpa using hlt
    obtain ⟨u, hu, hru⟩ := (reps_get hcs).2 _ _ hcl
    have hu2 := rep_val hru
    rw [rep]
    refine ⟨b, o' + n.toNat, [u], by rw [p3]; simp, hz, ?_, ?_⟩
    ·simp only [reps, rep]
     exact ⟨_, _, rfl, by rw [hu2]; simp [List.getD, hlt], rfl⟩
    ·intro j v hv
     cases j with
     | zero => simp at hv; subst hv; exact hcell _ _ hu
     | succ j => simp at hv
   refine ⟨_, _, [], h, Snd.pure fun p E' H w ρv hr hh hops => ?_⟩
   obtain ⟨hv, hn⟩ := hops2 hops
   rw [hx, rep] at hv
   obtain ⟨b, o', cs, hpt, hz, hcs, hcell⟩ := hv
   have hrun := run_indexAt_array (k := k) (b := b) (o' := o' + j) hT hE p.1 p.2 w
   refine ⟨_, hex (by rw [hpt, hn]; exact hrun), ?_⟩
   rw [rep]
   exact ⟨b, o', cs, by rw [Nat.add_assoc], hz, hcs, hcell⟩
  ·exact h.elim
 ·exact h.elim

/-! index of a string or an array that is a value -/
def indexK (tb : TypeId → Option TI) (T : TypeId) (x y : AV) (K : KF) : Prop :=
 match tb T with
 | none => False
 | some ti => match y with
  | .val (.int k n) => match ti.u with
   | .string => match x with
    | .val (.string s) => K (0 ≤ n ∧ n < s.size) (.val (.int .u8 (s.data.toList.getD n.toNat 0).toNat)) []
    | _ => False
   | .array m E => match tb E with
    | some ei => match x with
     | .agg l => cvK ei (dropL l (n.toNat * ei.sz)) fun Ψ v => K (0 ≤ n ∧ n < m ∧ Ψ) v []
     | _ => False
    | none => False
   | _ => False
  | _ => False
theorem index_sound {tb : TypeId → Option TI} (htb : TbOk P tb) {T : TypeId} {x y : Operand} (ho : o.op = .index T x y) {K : KF} (h : indexK tb T (ev x) (ev y) K) : ∃ Φ v us, K Φ v us ∧ Snd P o ev hg Φ v us := by
 unfold indexK at h
 split at h
 ·exact h.elim
 rename_i ti hti
 have hT := (htb T ti hti).u
 split at h
 rotate_left
 ·exact h.elim
 rename_i k n hy
 have hops2 : ∀ {E : Env} {w : World} {ρv : Operand → Value}, (∀ x ∈ opnds o.op, rep E w (ev x) (ρv x)) → rep E w (ev x) (ρv x) ∧ ρv y = .int k n := by
  intro E w ρv hops
  refine ⟨hops x (by rw [ho]; simp [opnds]), ?_⟩
  have := hops y (by rw [ho]; simp [opnds])
  rw [hy] at this
  exact rep_val this
 split at h
 ·rename_i hu
  rw [hu] at hT
  split at h
  rotate_left
  ·exact h.elim
  rename_i s hx
  refine ⟨_, _, [], h, Snd.pure fun p E' H w ρv hr hh hops => ?_⟩
  obtain ⟨p1, p2⟩ := p
  obtain ⟨hv, hn⟩ := hops2 hops
  rw [hx] at hv
  have hv := rep_val hv
  refine ⟨_, ?_, by rw [rep]⟩
  have hlt : n.toNat < s.size := by omega
  have hlt' : n.toNat < s.data.toList.length := by simpa using hlt
  have e : s[n.toNat]? = some (s.data.toList.getD n.toNat 0) := by
   rw [getElem?_pos s n.toNat hlt]
   have e2 : s[n.toNat] = s.data.toList[n.toNat]'hlt' := rfl
   rw [e2, List.getD, List.getElem?_eq_getElem hlt']; rfl
  unfold execOp
  simp only [ho, hv, hn]
  unfold Instr.index
  have hT' : P.underlying T = some .string := hT
  simp [Sem.run_bind, asIntOf, run_underlying hT', p1, e]
 ·rename_i m E hu
  rw [hu] at hT
  split at h
  rotate_left
  ·exact h.elim
  rename_i ei hei
  have hE := htb E ei hei
  split at h
  rotate_left
  ·exact h.elim
  rename_i l hx
  obtain ⟨Ψ, v, h, hl⟩ := cv_load hE h
  refine ⟨_, _, [], h, Snd.pure fun p E' H w ρv hr hh hops => ?_⟩
  obtain ⟨p1, p2, p3⟩ := p
  obtain ⟨hv, hn⟩ := hops2 hops
  rw [hx, rep] at hv
  obtain ⟨cs, hv, hcs⟩ := hv
  obtain ⟨cv, hr1, hr2, _⟩ := hl p3 E' w cs hcs
  refine ⟨cv, ?_, hr1⟩
  have hT' : P.underlying T = some (.array m E) := hT
  unfold execOp
  simp only [ho, hv, hn]
  unfold Instr.index
  simp [Sem.run_bind, asIntOf, run_underlying hT', p1, p2, hE.sizeOf, hr2]
 ·exact h.elim

theorem TIok.slTy {T E : TypeId} {ti : TI} (hT : P.underlying T = some (.slice E)) (hE : TIok P E ti) : ∃ z, SlTy P T E ti.sz ti.bytes z ∧ z.cells.toList = ti.zero := by
 obtain ⟨z, h1, h2⟩ := hE.info
 exact ⟨z, ⟨hT, h1, by have := hE.zsz; rw [← h2] at this; simpa using this⟩, h2⟩
/-! slice -/
def bndK (a : Option AV) (d : Int) (K : Int → Prop) : Prop := match a with
 | none => K d
 | some (.val (.int _ n)) => K n
 | some _ => False
theorem bndK_sound {a : Option Operand} {d : Nat} {K : Int → Prop} (h : bndK (a.map ev) d K) : ∃ n : Int, K n ∧ ∀ (E : Env) (w : World) (ρv : Operand → Value), (∀ x ∈ a.toList, rep E w (ev x) (ρv x)) → 0 ≤ n → isBound (a.map ρv) d n.toNat := by
 cases a with
 | none => exact ⟨d, h, fun E w ρv _ _ => .inl ⟨rfl, by simp⟩⟩
 | some x =>
  simp only [Option.map_some, bndK] at h
  split at h
  ·rename_i h1; cases h1
  ·rename_i k n h1
   have hx := Option.some.inj h1
   refine ⟨n, h, fun E w ρv hops hn => .inr ⟨k, ?_⟩⟩
   have := hops x (by simp)
   rw [hx] at this
   simp only [Option.map_some, rep_val this, Option.some.injEq, Value.int.injEq, true_and]
   omega
  ·exact h.elim
def sliceK (tb : TypeId → Option TI) (hg : Nat → Option Ent) (T : TypeId) (x : AV) (lo hi : Option AV) (K : KF) : Prop :=
 match tb T with
 | none => False
 | some ti => match ti.u with
  | .slice E => szOf tb E fun s => match x with
   | .own r ver sz off n => curK hg r ver fun Φ => bndK lo 0 fun l => bndK hi n fun h => K (Φ ∧ sz = s ∧ 0 ≤ l ∧ l ≤ h ∧ h ≤ n) (.own r ver sz (off + l.toNat) (h.toNat - l.toNat)) []
   | .bs z c => bndK lo 0 fun l => bndK hi c.length fun h => K (s = 1 ∧ 0 ≤ l ∧ l ≤ h ∧ h ≤ c.length) (.bs z ((c.take h.toNat).drop l.toNat)) []
   | .sl z sz f d c => bndK lo 0 fun l => bndK hi c.length fun h => K (sz = s ∧ 0 ≤ l ∧ l ≤ h ∧ h ≤ c.length) (.sl z sz f d ((c.take h.toNat).drop l.toNat)) []
   | .val (.slice none 0 0) => bndK lo 0 fun l => bndK hi 0 fun h => K (l = 0 ∧ h = 0) (.val (.slice none 0 0)) []
   | _ => False
  | .string => match x with
   | .val (.string c) => bndK lo 0 fun l => bndK hi c.size fun h => K (0 ≤ l ∧ l ≤ h ∧ h ≤ c.size) (.val (.string (c.extract l.toNat h.toNat))) []
   | _ => False
  | _ => False
theorem run_slice_str {T : TypeId} (hT : P.underlying T = some .string) (s : ByteArray) {l h : Nat} {lo hi : Option Value} (hl : isBound lo 0 l) (hh : isBound hi s.size h) (h1 : l ≤ h) (h2 : h ≤ s.size) (w : World) :
    (Instr.sliceAt T (.string s) lo hi none).run P w = .ok (.string (s.extract l h)) w := by

 rcases hl with ⟨rfl, rfl⟩ | ⟨k, rfl⟩ <;> rcases hh with ⟨rfl, rfl⟩ | ⟨k', rfl⟩ <;>
  simp [Instr.sliceAt, Instr.slice, Instr.sliceBounds, Instr.sliceBound, asIntOf, run_underlying hT, Sem.run_bind, h1, h2]
theorem slice_sound {tb : TypeId → Option TI} (htb : TbOk P tb) {T : TypeId} {x : Operand} {lo hi : Option Operand} (ho : o.op = .slice T x lo hi none) {K : KF} (h : sliceK tb hg T (ev x) (lo.map ev) (hi.map ev) K) : ∃ Φ v us, K Φ v us ∧ Snd P o ev hg Φ v us := by
 unfold sliceK at h
 split at h
 ·exact h.elim
 rename_i ti hti
 have hT := (htb T ti hti).u
 have hopx : ∀ {E : Env} {w : World} {ρv : Operand → Value}, (∀ x ∈ opnds o.op, rep E w (ev x) (ρv x)) → rep E w (ev x) (ρv x) ∧ (∀ y ∈ lo.toList, rep E w (ev y) (ρv y)) ∧ (∀ y ∈ hi.toList, rep E w (ev y) (ρv y)) := by
  intro E w ρv hops
  rw [ho] at hops
  simp only [opnds] at hops
  exact ⟨hops x (by simp), fun y hy => hops y (by simp at hy ⊢; simp [hy]), fun y hy => hops y (by simp at hy ⊢; simp [hy])⟩
 have hex : ∀ {w : World} {ρv : Operand → Value} {v : Value}, (Instr.sliceAt T (ρv x) (lo.map ρv) (hi.map ρv) none).run P w = .ok v w → (execOp ρv o).run P w = .ok (.value v) w := by
  intro w ρv v hr
  unfold execOp
  simp only [ho, Sem.run_bind, Option.map_none, hr, Result.andThen_ok, Sem.run_pure]
 split at h
 ·rename_i E hu
  rw [hu] at hT
  obtain ⟨ei, h, hE⟩ := szOf_sound htb h
  obtain ⟨z0, hS, _⟩ := hE.slTy hT
  split at h
  ·rename_i r ver sz off n hx
   obtain ⟨Φ, h, hc⟩ := curK_sound h
   obtain ⟨l, h, hl⟩ := bndK_sound h
   obtain ⟨hh', h, hh1⟩ := bndK_sound h
   refine ⟨_, _, [], h, Snd.pure fun p E' H w ρv hr hh hops => ?_⟩
   obtain ⟨p1, p2, p3, p4, p5⟩ := p
   obtain ⟨hv, hol, hoh⟩ := hopx hops
   rw [hx, rep] at hv
   obtain ⟨a, c, hsl, h1, h2, h2', h3⟩ := hv.2 (hc p1 E' H w hr hh)
   have hrun := run_slice_at hS (a := a) (n := n) (c := c) (hl E' w ρv hol p3) (hh1 E' w ρv hoh (by omega)) (by omega) (by omega) w
   refine ⟨_, hex (by rw [hsl]; exact hrun), ?_⟩
   rw [rep]
   refine ⟨hv.1, fun _ => ⟨_, _, rfl, by omega, by omega, ?_, ?_⟩⟩
   ·intro e
    split at e
    ·omega
    ·have := h2' (by simpa using e); omega
   ·by_cases hc0 : c = l.toNat
    ·left; omega
    ·right
     have hc1 : c ≠ 0 := by omega
     obtain ⟨h30, rfl, cur, T', fz, h4, h5⟩ := h3.resolve_left hc1
     refine ⟨h30, ?_, cur, T', fz, h4, ?_⟩
     ·simp only [hc0, if_false, Option.map_some, Addr.add_lit, p2, Nat.add_mul]
     ·have : off + l.toNat + (c - l.toNat) = off + c := by omega
      rw [this]; exact h5
  ·rename_i z cc hx
   obtain ⟨l, h, hl⟩ := bndK_sound h
   obtain ⟨hh', h, hh1⟩ := bndK_sound h
   refine ⟨_, _, [], h, Snd.pure fun p E' H w ρv hr hh hops => ?_⟩
   obtain ⟨p2, p3, p4, p5⟩ := p
   obtain ⟨hv, hol, hoh⟩ := hopx hops
   rw [hx, rep] at hv
   obtain ⟨a, n, c, hsl, rfl, h1, h2, h2', h3⟩ := hv
   have hrun := run_slice_at hS (a := a) (n := cc.length) (c := c) (hl E' w ρv hol p3) (hh1 E' w ρv hoh (by omega)) (by omega) (by omega) w
   refine ⟨_, hex (by rw [hsl]; exact hrun), ?_⟩
   rw [rep]
   refine ⟨_, _, _, rfl, by simp; omega, by omega, by omega, ?_, ?_⟩
   ·intro e
    split at e
    ·omega
    ·have := h2' (by simpa using e); omega
   ·intro i u hu
    rw [List.getElem?_drop, List.getElem?_take] at hu
    split at hu
    ·obtain ⟨b, o', rfl, hz, hcell⟩ := h3 _ u hu
     have hc0 : c ≠ l.toNat := by omega
     refine ⟨b, o' + l.toNat, ?_, hz, ?_⟩
     ·simp only [hc0, if_false, Option.map_some, Addr.add_lit, p2, Nat.mul_one]
     ·rw [Nat.add_assoc]; exact hcell
    ·cases hu
  ·rename_i z sz α f d cc hx
   obtain ⟨l, h, hl⟩ := bndK_sound h
   obtain ⟨hh', h, hh1⟩ := bndK_sound h
   refine ⟨_, _, [], h, Snd.pure fun p E' H w ρv hr hh hops => ?_⟩
   obtain ⟨p2, p3, p4, p5⟩ := p
   obtain ⟨hv, hol, hoh⟩ := hopx hops
   rw [hx, rep] at hv
   obtain ⟨a, n, c, hsl, rfl, h1, h2, h2', h3⟩ := hv
   have hrun := run_slice_at hS (a := a) (n := cc.length) (c := c) (hl E' w ρv hol p3) (hh1 E' w ρv hoh (by omega)) (by omega) (by omega) w
   refine ⟨_, hex (by rw [hsl]; exact hrun), ?_⟩
   rw [rep]
   refine ⟨_, _, _, rfl, by simp; omega, by omega, by omega, ?_, ?_⟩
   ·intro e
    split at e
    ·omega
    ·have := h2' (by simpa using e); omega
   ·intro i u hu
    rw [List.getElem?_drop, List.getElem?_take] at hu
    split at hu
    ·obtain ⟨b, o', cs, rfl, hz, hcl, hcs, hcell⟩ := h3 _ u hu
     have hc0 : c ≠ l.toNat := by omega
     refine ⟨b, o' + l.toNat * sz, cs, ?_, hz, hcl, hcs, fun j u hu => ?_⟩
     ·simp only [hc0, if_false, Option.map_some, Addr.add_lit, p2]
     ·have := hcell j u hu
      rw [Nat.add_mul] at this
      rw [Nat.add_assoc o']; exact this
    ·cases hu
  ·rename_i hx
   obtain ⟨l, h, hl⟩ := bndK_sound (d := 0) h
   obtain ⟨hh', h, hh1⟩ := bndK_sound (d := 0) h
   refine ⟨_, _, [], h, Snd.pure fun p E' H w ρv hr hh hops => ?_⟩
   obtain ⟨rfl, rfl⟩ := p
   obtain ⟨hv, hol, hoh⟩ := hopx hops
   rw [hx] at hv
   have hv := rep_val hv
   have hrun := run_slice_at hS (a := none) (n := 0) (c := 0) (hl E' w ρv hol (by omega)) (hh1 E' w ρv hoh (by omega)) (by omega) (by omega) w
   exact ⟨_, hex (by rw [hv]; exact hrun), by rw [rep]; rfl⟩
  ·exact h.elim
 ·rename_i hu
  rw [hu] at hT
  have hT' : P.underlying T = some .string := hT
  split at h
  rotate_left
  ·exact h.elim
  rename_i c hx
  obtain ⟨l, h, hl⟩ := bndK_sound h
  obtain ⟨hh', h, hh1⟩ := bndK_sound h
  refine ⟨_, _, [], h, Snd.pure fun p E' H w ρv hr hh hops => ?_⟩
  obtain ⟨p3, p4, p5⟩ := p
  obtain ⟨hv, hol, hoh⟩ := hopx hops
  rw [hx] at hv
  have hv := rep_val hv
  refine ⟨_, hex (v := .string (c.extract l.toNat hh'.toNat)) ?_, by rw [rep]⟩
  have b1 := hl E' w ρv hol p3
  have b2 := hh1 E' w ρv hoh (by omega)
  have q1 : l.toNat ≤ hh'.toNat := by omega
  have q2 : hh'.toNat ≤ c.size := by omega
  rw [hv]
  exact run_slice_str hT' c b1 b2 q1 q2 w
 ·exact h.elim
/-! slice with three places -/
def slice3K (tb : TypeId → Option TI) (hg : Nat → Option Ent) (T : TypeId) (x : AV) (lo : Option AV) (hi mx : AV) (K : KF) : Prop :=
 match tb T with
 | none => False
 | some ti => match ti.u with
  | .slice E => szOf tb E fun s => match x with
   | .own r ver sz off n => curK hg r ver fun Φ => bndK lo 0 fun l => bndK (some hi) 0 fun h => bndK (some mx) 0 fun m => K (Φ ∧ sz = s ∧ 0 ≤ l ∧ l ≤ h ∧ h ≤ m ∧ m ≤ n) (.own r ver sz (off + l.toNat) (h.toNat - l.toNat)) []
   | _ => False
  | _ => False
theorem run_slice3_at {t E : TypeId} {sz bytes : Nat} {z : Value} (T : SlTy P t E sz bytes z) {a : Option Addr} {n c l h m : Nat} {lo : Option Value} {hi mx : Value} (hl : isBound lo 0 l) (hh : isBound (some hi) 0 h) (hm : isBound (some mx) 0 m) (h1 : l ≤ h) (h2 : h ≤ m) (h3 : m ≤ c) (w : World) :
    (Instr.sliceAt t (.slice a n c) lo (some hi) (some mx)).run P w = .ok (.slice (if m = l then a else a.map (·.add (l * sz))) (h - l) (m - l)) w := by
 obtain ⟨i, hi', hz, hsz, hby⟩ := info_parts T.info
 subst hsz
 rcases hh with ⟨q, _⟩ | ⟨k', hq⟩
 ·cases q
 cases hq
 rcases hm with ⟨q, _⟩ | ⟨k2, hq⟩
 ·cases q
 cases hq
 rcases hl with ⟨rfl, rfl⟩ | ⟨k, rfl⟩ <;>
  simp [Instr.sliceAt, Instr.slice, Instr.sliceBounds, Instr.sliceBound, asIntOf, run_underlying T.under, Sem.run_bind, Go.sizeOf, typeInfo, hi', h1, h2, h3]
theorem slice3_sound {tb : TypeId → Option TI} (htb : TbOk P tb) {T : TypeId} {x : Operand} {lo : Option Operand} {hi mx : Operand} (ho : o.op = .slice T x lo (some hi) (some mx)) {K : KF} (h : slice3K tb hg T (ev x) (lo.map ev) (ev hi) (ev mx) K) : ∃ Φ v us, K Φ v us ∧ Snd P o ev hg Φ v us := by
 unfold slice3K at h
 split at h
 ·exact h.elim
 rename_i ti hti
 have hT := (htb T ti hti).u
 have hopx : ∀ {E : Env} {w : World} {ρv : Operand → Value}, (∀ x ∈ opnds o.op, rep E w (ev x) (ρv x)) → rep E w (ev x) (ρv x) ∧ (∀ y ∈ lo.toList, rep E w (ev y) (ρv y)) ∧ rep E w (ev hi) (ρv hi) ∧ rep E w (ev mx) (ρv mx) := by
  intro E w ρv hops
  rw [ho] at hops
  simp only [opnds] at hops
  exact ⟨hops x (by simp), fun y hy => hops y (by simp at hy ⊢; simp [hy]), hops hi (by simp), hops mx (by simp)⟩
 split at h
 rotate_left
 ·exact h.elim
 rename_i E hu
 rw [hu] at hT
 obtain ⟨ei, h, hE⟩ := szOf_sound htb h
 obtain ⟨z0, hS, _⟩ := hE.slTy hT
 split at h
 rotate_left
 ·exact h.elim
 rename_i r ver sz off n hx
 obtain ⟨Φ, h, hc⟩ := curK_sound h
 obtain ⟨l, h, hl⟩ := bndK_sound h
 obtain ⟨hh', h, hh1⟩ := bndK_sound (a := some hi) (d := 0) h
 obtain ⟨m', h, hm1⟩ := bndK_sound (a := some mx) (d := 0) h
 refine ⟨_, _, [], h, Snd.pure fun p E' H w ρv hr hh hops => ?_⟩
 obtain ⟨p1, p2, p3, p4, p5, p6⟩ := p
 obtain ⟨hv, hol, hoh, hom⟩ := hopx hops
 rw [hx, rep] at hv
 obtain ⟨a, c, hsl, h1, h2, h2', h3⟩ := hv.2 (hc p1 E' H w hr hh)
 have hrun := run_slice3_at hS (a := a) (n := n) (c := c) (hl E' w ρv hol p3) (hh1 E' w ρv (by simpa using hoh) (by omega)) (hm1 E' w ρv (by simpa using hom) (by omega)) (by omega) (by omega) (by omega) w
 refine ⟨.slice (if m'.toNat = l.toNat then a else a.map (·.add (l.toNat * ei.sz))) (hh'.toNat - l.toNat) (m'.toNat - l.toNat), ?_, ?_⟩
 ·unfold execOp
  simp only [ho, Sem.run_bind, Option.map_some, hsl, hrun, Result.andThen_ok, Sem.run_pure]
 rw [rep]
 refine ⟨hv.1, fun _ => ⟨_, _, rfl, by omega, by omega, ?_, ?_⟩⟩
 ·intro e
  split at e
  ·omega
  ·have := h2' (by simpa using e); omega
 ·by_cases hc0 : m'.toNat = l.toNat
  ·left; omega
  ·right
   have hc1 : c ≠ 0 := by omega
   obtain ⟨h30, rfl, cur, T', fz, h4, h5⟩ := h3.resolve_left hc1
   refine ⟨h30, ?_, cur, T', fz, h4, ?_⟩
   ·simp only [hc0, if_false, Option.map_some, Addr.add_lit, p2, Nat.add_mul]
   ·have : (off + l.toNat + (m'.toNat - l.toNat)) * sz ≤ (off + c) * sz := Nat.mul_le_mul_right _ (by omega)
    omega
end
end Go.Proofs.YtmjpbmcbcppkfaaGreatDoor

/-! Abstract values: numbers, tests, lengths, parts. Conditions: what 'TIok' says of the types. -/
namespace Go.Proofs.YtmjpbmcbcppkfaaGreatDoor
set_option linter.unusedVariables false
set_option linter.unusedSimpArgs false
section
variable {P : Program} {o : Oper} {ev : Operand → AV} {hg : Nat → Option Ent}
theorem run_binOp {op : BinOp} {T : TypeId} {x y : Operand} {T' : TypeId} (ho : o.op = .binOp op T x y T') {w : World} {ρv : Operand → Value} {u : Value} (hg1 : (eqGuard op T x y (ρv x) (ρv y)).run P w = .ok () w)
    (hr : (binOp op T (ρv x) (ρv y)).run P w = .ok u w) : (execOp ρv o).run P w = .ok (.value u) w := by
 unfold execOp
 simp only [ho, Sem.run_bind, hg1, Result.andThen_ok, hr, Sem.run_pure]
theorem eqGuard_int {op : BinOp} {T : TypeId} {x y : Operand} {k k' : IntKind} {a b : Int} (w : World) : (eqGuard op T x y (.int k a) (.int k' b)).run P w = .ok () w := by
 unfold eqGuard; split <;> rfl
theorem eqGuard_bool {op : BinOp} {T : TypeId} {x y : Operand} {a b : Bool} (w : World) : (eqGuard op T x y (.bool a) (.bool b)).run P w = .ok () w := by
 unfold eqGuard; split <;> rfl
theorem eqGuard_string {op : BinOp} {T : TypeId} {x y : Operand} {a b : ByteArray} (w : World) : (eqGuard op T x y (.string a) (.string b)).run P w = .ok () w := by
 unfold eqGuard; split <;> rfl
theorem eqGuard_ptr {op : BinOp} {T : TypeId} {x y : Operand} {a b : Option Addr} (w : World) : (eqGuard op T x y (.pointer a) (.pointer b)).run P w = .ok () w := by
 unfold eqGuard; split <;> rfl
theorem eqGuard_slice {op : BinOp} {T : TypeId} {x y : Operand} {a b : Option Addr} {n c m d : Nat} (w : World) : (eqGuard op T x y (.slice a n c) (.slice b m d)).run P w = .ok () w := by
 unfold eqGuard; split <;> rfl

def nilTest (op : BinOp) (K : Prop → AV → Prop) : Prop := match op with
 | .eql => K True (.val (.bool false))
 | .neq => K True (.val (.bool true))
 | _ => False
def nilBoth (op : BinOp) (K : Prop → AV → Prop) : Prop := match op with
 | .eql => K True (.val (.bool true))
 | .neq => K True (.val (.bool false))
 | _ => False
def boolK (op : BinOp) (a b : Bool) (K : Prop → AV → Prop) : Prop := match op with
 | .eql => K True (.val (.bool (a == b)))
 | .neq => K True (.val (.bool (!(a == b))))
 | _ => False
def strK (op : BinOp) (a b : ByteArray) (K : Prop → AV → Prop) : Prop := match op with
 | .eql => K True (.val (.bool (decide (a.data.toList = b.data.toList))))
 | .neq => K True (.val (.bool (!decide (a.data.toList = b.data.toList))))
 | .add => K (a.size + b.size ≤ 9223372036854775807) (.val (.string (a ++ b)))
 | .lss => K True (.val (.bool (Op.bytesLess a.data.toList b.data.toList)))
 | .leq => K True (.val (.bool (Op.bytesLess a.data.toList b.data.toList || decide (a.data.toList = b.data.toList))))
 | .gtr => K True (.val (.bool (!(Op.bytesLess a.data.toList b.data.toList || decide (a.data.toList = b.data.toList)))))
 | .geq => K True (.val (.bool (!Op.bytesLess a.data.toList b.data.toList)))
 | _ => False
def valsOf : List AV → Option (List Value)
 | [] => some []
 | x :: l => match x with
  | .val v => match valsOf l with
   | some vs => some (v :: vs)
   | none => none
  | _ => none
theorem valsOf_sound {E : Env} {w : World} : ∀ {l : List AV} {vs cs : List Value}, valsOf l = some vs → reps E w l cs → cs = vs
 | [], vs, cs, h, hr => by
  simp only [valsOf, Option.some.injEq] at h
  rw [reps] at hr
  rw [hr, h]
 | x :: l, vs, cs, h, hr => by
  unfold valsOf at h
  split at h
  ·split at h
   ·rename_i v _ us hu
    cases h
    rw [reps] at hr
    obtain ⟨v', vs', rfl, h1, h2⟩ := hr
    rw [rep] at h1
    rw [h1, valsOf_sound hu h2]
   ·cases h
  ·cases h
def aggB (op : BinOp) (vs ws : List Value) (K : AV → Prop) : Prop := match op with
 | .eql => K (.val (.bool (eqVs vs ws)))
 | .neq => K (.val (.bool (!eqVs vs ws)))
 | _ => False
def binK (tb : TypeId → Option TI) (hg : Nat → Option Ent) (op : BinOp) (T : TypeId) (x y : AV) (K : KF) : Prop :=
 match x with
 | .val (.int k a) => match y with
  | .val (.int k' b) => match op with
   | .shl => shK .shl k a b fun Φ v => K Φ v []
   | .shr => shK .shr k a b fun Φ v => K Φ v []
   | op => intK op k a b fun Φ v => K (k' = k ∧ Φ) v []
  | _ => False
 | .val (.bool a) => match y with
  | .val (.bool b) => match tb T with
   | some ti => match ti.u with
    | .bool => boolK op a b fun Φ v => K Φ v []
    | _ => False
   | none => False
  | _ => False
 | .val (.string a) => match y with
  | .val (.string b) => strK op a b fun Φ v => K Φ v []
  | _ => False
 | .ref r ver _ _ _ => match y with
  | .val (.pointer none) => match tb T with
   | some ti => match ti.u with
    | .ptr _ => curK hg r ver fun Ψ => nilTest op fun Φ v => K Ψ v []
    | _ => False
   | none => False
  | _ => False
 | .val (.pointer none) => match y with
  | .val (.pointer none) => match tb T with
   | some ti => match ti.u with
    | .ptr _ => nilBoth op fun Φ v => K Φ v []
    | _ => False
   | none => False
  | _ => False
 | .val (.slice none 0 0) => match y with
  | .val (.slice none 0 0) => match tb T with
   | some ti => match ti.u with
    | .slice _ => nilBoth op fun Φ v => K Φ v []
    | _ => False
   | none => False
  | _ => False
 | .own r ver sz off n => match y with
  | .val (.slice none 0 0) => match tb T with
   | some ti => match ti.u with
    | .slice _ => curK hg r ver fun Ψ => nilTest op fun Φ v => K (Ψ ∧ 0 < n) v []
    | _ => False
   | none => False
  | _ => False
 | .bs z l => match y with
  | .val (.slice none 0 0) => match tb T with
   | some ti => match ti.u with
    | .slice _ => nilTest op fun Φ v => K (0 < l.length) v []
    | _ => False
   | none => False
  | _ => False
 | .agg l => match y with
  | .agg m => match tb T with
   | some ti => match ti.cmp with
    | true => match valsOf l with
     | some vs => match valsOf m with
      | some ws => aggB op vs ws fun v => K (fitV ti.zero vs ∧ fitV ti.zero ws) v []
      | none => False
     | none => False
    | false => False
   | none => False
  | _ => False
 | _ => False
theorem bin_sound {tb : TypeId → Option TI} (htb : TbOk P tb) {op : BinOp} {T T' : TypeId} {x y : Operand} (ho : o.op = .binOp op T x y T') {K : KF} (h : binK tb hg op T (ev x) (ev y) K) : ∃ Φ v us, K Φ v us ∧ Snd P o ev hg Φ v us := by
 have hops2 : ∀ {E : Env} {w : World} {ρv : Operand → Value}, (∀ x ∈ opnds o.op, rep E w (ev x) (ρv x)) → rep E w (ev x) (ρv x) ∧ rep E w (ev y) (ρv y) := by
  intro E w ρv hops
  rw [ho] at hops
  exact ⟨hops x (by simp [opnds]), hops y (by simp [opnds])⟩
 have fin : ∀ {Φ : Prop} {u : Value}, K Φ (.val u) [] → (Φ → ∀ (E : Env) (H : List Ent) (w : World) (a b : Value), HR E w H → (∀ (r : Nat) (e : Ent), hg r = some e → H[r]? = some e) → rep E w (ev x) a → rep E w (ev y) b →
     (eqGuard op T x y a b).run P w = .ok () w ∧ (binOp op T a b).run P w = .ok u w) → ∃ Φ v us, K Φ v us ∧ Snd P o ev hg Φ v us := by
  intro Φ u hK hrun
  refine ⟨Φ, _, [], hK, Snd.pure fun p E H w ρv hr hh hops => ?_⟩
  obtain ⟨h1, h2⟩ := hops2 hops
  obtain ⟨h3, h4⟩ := hrun p E H w _ _ hr hh h1 h2
  exact ⟨u, run_binOp ho h3 h4, by rw [rep]⟩
 unfold binK at h
 split at h
 ·rename_i k a hx
  split at h
  rotate_left
  ·exact h.elim
  rename_i k' b hy
  have key : ∀ {Φ : Prop} {u : Value}, K Φ (.val u) [] → (Φ → ∀ w, (binOp op T (.int k a) (.int k' b)).run P w = .ok u w) → ∃ Φ v us, K Φ v us ∧ Snd P o ev hg Φ v us := by
   intro Φ u hK hrun
   refine fin hK fun p E H w a' b' hr hh h1 h2 => ?_
   rw [hx] at h1; rw [hy] at h2
   rw [rep_val h1, rep_val h2]
   exact ⟨eqGuard_int w, hrun p w⟩
  split at h
  ·obtain ⟨Φ, u, h1, h2⟩ := shK_sound (P := P) (k' := k') T h
   exact key h1 h2
  ·obtain ⟨Φ, u, h1, h2⟩ := shK_sound (P := P) (k' := k') T h
   exact key h1 h2
  ·obtain ⟨Φ, u, h1, h2⟩ := intK_sound (P := P) T h
   exact key h1 (fun p w => by rw [p.1]; exact h2 p.2 w)
 ·rename_i a hx
  repeat' (split at h; rotate_left; (try exact h.elim))
  all_goals (try exact h.elim)
  rename_i _ b hy _ ti hti _ hu
  have hT := (htb T ti hti).u
  rw [hu] at hT
  have hT' : P.underlying T = some .bool := hT
  unfold boolK at h
  split at h
  ·refine fin h fun p E H w a' b' hr hh h1 h2 => ?_
   rw [hx] at h1; rw [hy] at h2
   rw [rep_val h1, rep_val h2]
   exact ⟨eqGuard_bool w, run_eql_bool w T a b hT'⟩
  ·refine fin h fun p E H w a' b' hr hh h1 h2 => ?_
   rw [hx] at h1; rw [hy] at h2
   rw [rep_val h1, rep_val h2]
   exact ⟨eqGuard_bool w, run_neq_bool w T a b hT'⟩
  ·exact h.elim
 ·rename_i a hx
  split at h
  rotate_left
  ·exact h.elim
  rename_i b hy
  have e : (a.toList == b.toList) = decide (a.data.toList = b.data.toList) := by
   rw [ByteArray.toList_eq, ByteArray.toList_eq, Bool.eq_iff_iff]; simp
  unfold strK at h
  split at h
  ·refine fin h fun p E H w a' b' hr hh h1 h2 => ?_
   rw [hx] at h1; rw [hy] at h2
   rw [rep_val h1, rep_val h2]
   exact ⟨eqGuard_string w, by simp only [binOp, Op.stringOp, Sem.run_pure, e]⟩
  ·refine fin h fun p E H w a' b' hr hh h1 h2 => ?_
   rw [hx] at h1; rw [hy] at h2
   rw [rep_val h1, rep_val h2]
   exact ⟨eqGuard_string w, by simp only [binOp, Op.stringOp, Sem.run_pure, e]⟩
  ·refine fin h fun p E H w a' b' hr hh h1 h2 => ?_
   rw [hx] at h1; rw [hy] at h2
   rw [rep_val h1, rep_val h2]
   refine ⟨eqGuard_string w, ?_⟩
   have : ¬ (((a.size + b.size : Nat) : Int) > IntKind.i64.max) := by simp [IntKind.max, IntKind.signed, IntKind.bits]; omega
   simp only [binOp, Op.stringOp]
   rw [if_neg this]; rfl
  ·refine fin h fun p E H w a' b' hr hh h1 h2 => ?_
   rw [hx] at h1; rw [hy] at h2
   rw [rep_val h1, rep_val h2]
   exact ⟨eqGuard_string w, by (simp only [binOp, Op.stringOp, Sem.run_pure]; (try rw [e]); simp only [ByteArray.toList_eq])⟩
  ·refine fin h fun p E H w a' b' hr hh h1 h2 => ?_
   rw [hx] at h1; rw [hy] at h2
   rw [rep_val h1, rep_val h2]
   exact ⟨eqGuard_string w, by (simp only [binOp, Op.stringOp, Sem.run_pure]; (try rw [e]); simp only [ByteArray.toList_eq])⟩
  ·refine fin h fun p E H w a' b' hr hh h1 h2 => ?_
   rw [hx] at h1; rw [hy] at h2
   rw [rep_val h1, rep_val h2]
   exact ⟨eqGuard_string w, by (simp only [binOp, Op.stringOp, Sem.run_pure]; (try rw [e]); simp only [ByteArray.toList_eq])⟩
  ·refine fin h fun p E H w a' b' hr hh h1 h2 => ?_
   rw [hx] at h1; rw [hy] at h2
   rw [rep_val h1, rep_val h2]
   exact ⟨eqGuard_string w, by (simp only [binOp, Op.stringOp, Sem.run_pure]; (try rw [e]); simp only [ByteArray.toList_eq])⟩
  ·exact h.elim
 ·rename_i r ver s i j hx
  repeat' (split at h; rotate_left; (try exact h.elim))
  all_goals (try exact h.elim)
  rename_i _ hy _ ti hti _ E0 hu
  have hT := (htb T ti hti).u
  rw [hu] at hT
  have hT' : P.underlying T = some (.pointer (P.pointee T)) := by
   have : P.underlying T = some (.pointer E0) := hT
   simp [Program.pointee, this]
  obtain ⟨Ψ, h, hc⟩ := curK_sound h
  unfold nilTest at h
  split at h
  ·refine fin h fun p E H w a' b' hr hh h1 h2 => ?_
   rw [hx, rep] at h1; rw [hy] at h2
   rw [h1.2 (hc p E H w hr hh), rep_val h2]
   exact ⟨eqGuard_ptr w, run_eql_pointer_nil w T _ hT'⟩
  ·refine fin h fun p E H w a' b' hr hh h1 h2 => ?_
   rw [hx, rep] at h1; rw [hy] at h2
   rw [h1.2 (hc p E H w hr hh), rep_val h2]
   exact ⟨eqGuard_ptr w, run_neq_pointer_nil w T _ hT'⟩
  ·exact h.elim
 ·rename_i hx
  repeat' (split at h; rotate_left; (try exact h.elim))
  all_goals (try exact h.elim)
  rename_i _ hy _ ti hti _ E0 hu
  have hT := (htb T ti hti).u
  rw [hu] at hT
  have hT' : P.underlying T = some (.pointer (P.pointee T)) := by
   have : P.underlying T = some (.pointer E0) := hT
   simp [Program.pointee, this]
  unfold nilBoth at h
  split at h
  ·refine fin h fun p E H w a' b' hr hh h1 h2 => ?_
   rw [hx] at h1; rw [hy] at h2
   rw [rep_val h1, rep_val h2]
   exact ⟨eqGuard_ptr w, run_eql_pointer_nil w T _ hT'⟩
  ·refine fin h fun p E H w a' b' hr hh h1 h2 => ?_
   rw [hx] at h1; rw [hy] at h2
   rw [rep_val h1, rep_val h2]
   exact ⟨eqGuard_ptr w, run_neq_pointer_nil w T _ hT'⟩
  ·exact h.elim
 ·rename_i hx
  repeat' (split at h; rotate_left; (try exact h.elim))
  all_goals (try exact h.elim)
  rename_i _ hy _ ti hti _ E0 hu
  have hT := (htb T ti hti).u
  rw [hu] at hT
  have hT' : P.underlying T = some (.slice E0) := hT
  unfold nilBoth at h
  split at h
  ·refine fin h fun p E H w a' b' hr hh h1 h2 => ?_
   rw [hx] at h1; rw [hy] at h2
   rw [rep_val h1, rep_val h2]
   exact ⟨eqGuard_slice w, run_eql_nil_slice w T E0 none 0 0 0 0 hT'⟩
  ·refine fin h fun p E H w a' b' hr hh h1 h2 => ?_
   rw [hx] at h1; rw [hy] at h2
   rw [rep_val h1, rep_val h2]
   exact ⟨eqGuard_slice w, run_neq_nil_slice w T E0 none 0 0 0 0 hT'⟩
  ·exact h.elim
 ·rename_i r ver sz off n hx
  repeat' (split at h; rotate_left; (try exact h.elim))
  all_goals (try exact h.elim)
  rename_i _ hy _ ti hti _ E0 hu
  have hT := (htb T ti hti).u
  rw [hu] at hT
  have hT' : P.underlying T = some (.slice E0) := hT
  obtain ⟨Ψ, h, hc⟩ := curK_sound h
  have hsome : ∀ {E : Env} {H : List Ent} {w : World} {a' : Value}, Ψ → 0 < n → HR E w H → (∀ (r : Nat) (e : Ent), hg r = some e → H[r]? = some e) → rep E w (ev x) a' → ∃ ad c, a' = .slice (some ad) n c := by
   intro E H w a' p1 p2 hr hh h1
   rw [hx, rep] at h1
   obtain ⟨a, c, rfl, h3, h4, h5, h6⟩ := h1.2 (hc p1 E H w hr hh)
   cases a with
   | none => have := h5 rfl; omega
   | some ad => exact ⟨ad, c, rfl⟩
  unfold nilTest at h
  split at h
  ·refine fin h fun p E H w a' b' hr hh h1 h2 => ?_
   obtain ⟨ad, c, rfl⟩ := hsome p.1 p.2 hr hh h1
   rw [hy] at h2
   rw [rep_val h2]
   exact ⟨eqGuard_slice w, Lib.run_eql_slice_nil w T E0 (some ad) n c 0 0 hT'⟩
  ·refine fin h fun p E H w a' b' hr hh h1 h2 => ?_
   obtain ⟨ad, c, rfl⟩ := hsome p.1 p.2 hr hh h1
   rw [hy] at h2
   rw [rep_val h2]
   exact ⟨eqGuard_slice w, run_neq_slice_nil_any w T E0 (some ad) n c 0 0 hT'⟩
  ·exact h.elim
 ·rename_i z l hx
  repeat' (split at h; rotate_left; (try exact h.elim))
  all_goals (try exact h.elim)
  rename_i _ hy _ ti hti _ E0 hu
  have hT := (htb T ti hti).u
  rw [hu] at hT
  have hT' : P.underlying T = some (.slice E0) := hT
  have hsome : ∀ {E : Env} {w : World} {a' : Value}, 0 < l.length → rep E w (ev x) a' → ∃ ad n c, a' = .slice (some ad) n c := by
   intro E w a' p2 h1
   rw [hx, rep] at h1
   obtain ⟨a, n, c, rfl, h3, h4, h5, h6, h7⟩ := h1
   cases a with
   | none => have := h6 rfl; omega
   | some ad => exact ⟨ad, _, c, rfl⟩
  unfold nilTest at h
  split at h
  ·refine fin h fun p E H w a' b' hr hh h1 h2 => ?_
   obtain ⟨ad, n, c, rfl⟩ := hsome p h1
   rw [hy] at h2
   rw [rep_val h2]
   exact ⟨eqGuard_slice w, Lib.run_eql_slice_nil w T E0 (some ad) n c 0 0 hT'⟩
  ·refine fin h fun p E H w a' b' hr hh h1 h2 => ?_
   obtain ⟨ad, n, c, rfl⟩ := hsome p h1
   rw [hy] at h2
   rw [rep_val h2]
   exact ⟨eqGuard_slice w, run_neq_slice_nil_any w T E0 (some ad) n c 0 0 hT'⟩
  ·exact h.elim
 ·rename_i l hx
  repeat' (split at h; rotate_left; (try exact h.elim))
  all_goals (try exact h.elim)
  rename_i _ m hy _ ti hti _ hcmp _ vs hvs _ ws hws
  have hT := (htb T ti hti).cmp hcmp
  unfold aggB at h
  split at h
  ·refine fin h fun p E H w a' b' hr hh h1 h2 => ?_
   rw [hx, rep] at h1; rw [hy, rep] at h2
   obtain ⟨cs, rfl, g1⟩ := h1
   obtain ⟨ds, rfl, g2⟩ := h2
   rw [valsOf_sound hvs g1, valsOf_sound hws g2]
   obtain ⟨q1, q2, q3, q4⟩ := hT w vs ws x y p.1 p.2
   exact ⟨q1, q3⟩
  ·refine fin h fun p E H w a' b' hr hh h1 h2 => ?_
   rw [hx, rep] at h1; rw [hy, rep] at h2
   obtain ⟨cs, rfl, g1⟩ := h1
   obtain ⟨ds, rfl, g2⟩ := h2
   rw [valsOf_sound hvs g1, valsOf_sound hws g2]
   obtain ⟨q1, q2, q3, q4⟩ := hT w vs ws x y p.1 p.2
   exact ⟨q2, q4⟩
  ·exact h.elim
 ·exact h.elim
/-! one operand -/
def unK (op : UnOp) (x : AV) (K : KF) : Prop := match x with
 | .val (.bool b) => match op with
  | .not => K True (.val (.bool (!b))) []
  | _ => False
 | .val (.int k a) => match op with
  | .neg => ar k (0 - a) fun Φ v => K Φ v []
  | .xor => match k with
   | .u8 => K (0 ≤ a ∧ a ≤ 255) (.val (.int .u8 (255 - a))) []
   | .u32 => K (0 ≤ a ∧ a ≤ 4294967295) (.val (.int .u32 (4294967295 - a))) []
   | .u64 => K (0 ≤ a ∧ a ≤ 18446744073709551615) (.val (.int .u64 (18446744073709551615 - a))) []
   | _ => False
  | _ => False
 | _ => False
theorem xor_all (n : Nat) {a : Nat} (h : a < 2 ^ n) : (2 ^ n - 1) ^^^ a = 2 ^ n - 1 - a := by
 apply Nat.eq_of_testBit_eq
 intro i
 rw [Nat.testBit_xor, Nat.testBit_two_pow_sub_one]
 have : 2 ^ n - 1 - a = 2 ^ n - (a + 1) := by omega
 rw [this, Nat.testBit_two_pow_sub_succ h]
 by_cases hi : i < n
 ·simp [hi]
 ·have : a.testBit i = false := Nat.testBit_lt_two_pow (Nat.lt_of_lt_of_le h (Nat.pow_le_pow_right (by decide) (by omega)))
  simp [hi, this]
theorem unary_xor {k : IntKind} (hs : k.signed = false) {a : Int} (h0 : 0 ≤ a) (h1 : inK k a) (w : World) : (Op.unary .xor (.int k a)).run P w = .ok (.int k (k.max - a)) w := by
 have hlt := inK_lt h1 h0
 have hm : inK k k.max := by cases k <;> simp [IntKind.max, IntKind.signed, IntKind.bits, inK] at hs ⊢
 have hm0 : (0 : Int) ≤ k.max := by cases k <;> simp [IntKind.max, IntKind.signed, IntKind.bits] at hs ⊢
 have hmx : k.max.toNat = 2 ^ k.bits - 1 := by cases k <;> simp [IntKind.max, IntKind.signed, IntKind.bits] at hs ⊢ <;> rfl
 have e : k.wrap ((BitVec.ofInt k.bits k.max ^^^ BitVec.ofInt k.bits a).toNat : Int) = k.max - a := by
  rw [BitVec.toNat_xor, ofInt_toNat hm hm0, ofInt_toNat h1 h0, hmx, xor_all _ hlt]
  rw [wrap_nat (by omega) (fun h => by rw [hs] at h; cases h)]
  omega
 simp only [Op.unary, hs, Op.intBits, Bool.false_eq_true, if_false, Sem.run_pure, e]
theorem un_sound {op : UnOp} {T : TypeId} {x : Operand} (ho : o.op = .unOp op T x) {K : KF} (h : unK op (ev x) K) : ∃ Φ v us, K Φ v us ∧ Snd P o ev hg Φ v us := by
 have fin : ∀ {Φ : Prop} {u u' : Value}, K Φ (.val u) [] → ev x = .val u' → (Φ → ∀ w, (Op.unary op u').run P w = .ok u w) → ∃ Φ v us, K Φ v us ∧ Snd P o ev hg Φ v us := by
  intro Φ u u' hK hx hrun
  refine ⟨Φ, _, [], hK, Snd.pure fun p E H w ρv hr hh hops => ?_⟩
  have h1 := hops x (by rw [ho]; simp [opnds])
  rw [hx] at h1
  have h1 := rep_val h1
  refine ⟨u, ?_, by rw [rep]⟩
  unfold execOp
  simp only [ho, h1, Sem.run_bind, hrun p w, Result.andThen_ok, Sem.run_pure]
 unfold unK at h
 split at h
 ·rename_i b hx
  split at h
  ·exact fin h hx fun p w => rfl
  ·exact h.elim
 ·rename_i k a hx
  split at h
  ·obtain ⟨Φ, m, h1, h2⟩ := ar_sound h
   exact fin h1 hx fun p w => by simp only [Op.unary, Op.intArith, h2 p, Sem.run_pure]
  ·split at h
   ·exact fin h hx fun p w => by have h9 := unary_xor (P := P) (k := .u8) rfl p.1 ⟨p.1, p.2⟩ w; simpa [IntKind.max, IntKind.signed, IntKind.bits] using h9
   ·exact fin h hx fun p w => by have h9 := unary_xor (P := P) (k := .u32) rfl p.1 ⟨p.1, p.2⟩ w; simpa [IntKind.max, IntKind.signed, IntKind.bits] using h9
   ·exact fin h hx fun p w => by have h9 := unary_xor (P := P) (k := .u64) rfl p.1 ⟨p.1, p.2⟩ w; simpa [IntKind.max, IntKind.signed, IntKind.bits] using h9
   ·exact h.elim
  ·exact h.elim
 ·exact h.elim
/-! conversions of numbers -/
def convK (tb : TypeId → Option TI) (S T : TypeId) (x : AV) (K : KF) : Prop := match x with
 | .val (.int _ n) => match tb S with
  | some si => match tb T with
   | some ti => match si.u with
    | .int _ => match ti.u with
     | .int k => ar k n fun Φ v => K Φ v []
     | _ => False
    | _ => False
   | none => False
  | none => False
 | _ => False
theorem conv_sound {tb : TypeId → Option TI} (htb : TbOk P tb) {S T : TypeId} {x : Operand} (ho : o.op = .convert S T x) {K : KF} (h : convK tb S T (ev x) K) : ∃ Φ v us, K Φ v us ∧ Snd P o ev hg Φ v us := by
 unfold convK at h
 repeat' (split at h; rotate_left; (try exact h.elim))
 all_goals (try exact h.elim)
 rename_i _ k0 n hx _ si hsi _ ti hti _ k1 hu1 _ k hu
 have hS := (htb S si hsi).u
 have hT := (htb T ti hti).u
 rw [hu1] at hS; rw [hu] at hT
 have hS' : P.underlying S = some (.int k1) := hS
 have hT' : P.underlying T = some (.int k) := hT
 obtain ⟨Φ, m, h1, h2⟩ := ar_sound h
 refine ⟨Φ, _, [], h1, Snd.pure fun p E H w ρv hr hh hops => ?_⟩
 have hv := hops x (by rw [ho]; simp [opnds])
 rw [hx] at hv
 have hv := rep_val hv
 refine ⟨_, ?_, by rw [rep]⟩
 unfold execOp
 simp only [ho, hv, Sem.run_bind]
 unfold convert
 simp [Sem.run_bind, run_underlying hS', run_underlying hT', Conv.intToInt, h2 p]
/-! copies -/
theorem move_sound {x : Operand} (ho : o.op = .move x ∨ o.op = .assign x) {K : KF} (h : K True (ev x) []) : ∃ Φ v us, K Φ v us ∧ Snd P o ev hg Φ v us := by
 refine ⟨_, _, _, h, Snd.pure fun p E H w ρv hr hh hops => ⟨ρv x, ?_, hops x (by rcases ho with ho | ho <;> rw [ho] <;> simp [opnds])⟩⟩
 rcases ho with ho | ho
 ·exact exec_move ho rfl
 ·exact exec_assign ho rfl
def extractK (x : AV) (i : Nat) (K : KF) : Prop := match x with
 | .tup l => K (i < l.length) (getA l i) []
 | _ => False
theorem getA_eq {l : List AV} {i : Nat} (h : i < l.length) : l[i]? = some (getA l i) := by
 unfold getA
 rw [getL_eq, List.getElem?_eq_getElem h]
theorem extract_sound {x : Operand} {i : Nat} (ho : o.op = .extract x i) {K : KF} (h : extractK (ev x) i K) : ∃ Φ v us, K Φ v us ∧ Snd P o ev hg Φ v us := by
 unfold extractK at h
 split at h
 ·rename_i l hx
  refine ⟨_, _, _, h, Snd.pure fun p E H w ρv hr hh hops => ?_⟩
  have hv := hops x (by rw [ho]; simp [opnds])
  rw [hx, rep] at hv
  obtain ⟨cs, hv, hcs⟩ := hv
  obtain ⟨u, hu, hru⟩ := (reps_get hcs).2 i _ (getA_eq p)
  refine ⟨u, ?_, hru⟩
  unfold execOp
  simp [ho, hv, Instr.extract, hu]
 ·exact h.elim
def fieldK (tb : TypeId → Option TI) (T : TypeId) (x : AV) (k : Nat) (K : KF) : Prop :=
 fieldOf tb T k fun off fi _ => match x with
  | .agg l => cvK fi (dropL l off) fun Φ v => K Φ v []
  | _ => False
theorem field_sound {tb : TypeId → Option TI} (htb : TbOk P tb) {T : TypeId} {x : Operand} {k : Nat} (ho : o.op = .field T x k) {K : KF} (h : fieldK tb T (ev x) k K) : ∃ Φ v us, K Φ v us ∧ Snd P o ev hg Φ v us := by
 obtain ⟨off, fi, flds, f, h, hu, hf, hoff, hfi⟩ := fieldOf_sound htb h
 split at h
 ·rename_i l hx
  obtain ⟨Φ, v, h, hl⟩ := cv_load hfi h
  refine ⟨_, _, _, h, Snd.pure fun p E H w ρv hr hh hops => ?_⟩
  have hv := hops x (by rw [ho]; simp [opnds])
  rw [hx, rep] at hv
  obtain ⟨cs, hv, hcs⟩ := hv
  obtain ⟨cv, h1, h2, _⟩ := hl p E w cs hcs
  refine ⟨cv, ?_, h1⟩
  unfold execOp
  simp only [ho, hv]
  unfold Instr.field
  simp [Sem.run_bind, run_underlying hu, hf, hoff, asAgg, h2]
 ·exact h.elim
theorem reps_map {E : Env} {w : World} {ρv : Operand → Value} : ∀ (l : List Operand), (∀ x ∈ l, rep E w (ev x) (ρv x)) → reps E w (l.map ev) (l.map ρv)
 | [], _ => by simp [reps]
 | x :: l, h => by
  simp only [List.map_cons, reps]
  exact ⟨_, _, rfl, h x (by simp), reps_map l (fun y hy => h y (by simp [hy]))⟩
theorem makeFunc_sound {f : FuncId} {caps : Array Operand} (ho : o.op = .makeFunc (.func f) #[] caps) {K : KF} (h : K True (.clo f (caps.toList.map ev)) []) : ∃ Φ v us, K Φ v us ∧ Snd P o ev hg Φ v us := by
 refine ⟨_, _, _, h, Snd.pure fun p E H w ρv hr hh hops => ?_⟩
 refine ⟨.func (.func f) #[] (caps.map ρv), ?_, ?_⟩
 ·unfold execOp
  simp [ho, Instr.makeFunc, Sem.run_pure]
 ·rw [rep]
  refine ⟨caps.toList.map ρv, by congr 1; apply Array.ext'; simp, reps_map _ (fun x hx => hops x (by rw [ho]; exact hx))⟩
/-! builtins of values -/
def lenK (tb : TypeId → Option TI) (T : TypeId) (x : AV) (K : KF) : Prop := match tb T with
 | some ti => match ti.u with
  | .slice _ => match x with
   | .own r ver _ _ n => curK hg r ver fun Φ => K Φ (.val (.int .i64 (n : Int))) []
   | .pl r ver _ _ n => curK hg r ver fun Φ => K Φ (.val (.int .i64 (n : Int))) []
   | .bs _ l => K True (.val (.int .i64 (l.length : Int))) []
   | .sl _ _ _ _ l => K True (.val (.int .i64 (l.length : Int))) []
   | .val (.slice none 0 0) => K True (.val (.int .i64 0)) []
   | _ => False
  | .string => match x with
   | .val (.string s) => K True (.val (.int .i64 (s.size : Int))) []
   | _ => False
  | _ => False
 | none => False
theorem len_sound {tb : TypeId → Option TI} (htb : TbOk P tb) {T : TypeId} {x : Operand} (ho : o.op = .call { callee := .builtin .len, args := #[x], argTypes := #[T] }) {K : KF} (h : lenK (hg := hg) tb T (ev x) K) : ∃ Φ v us, K Φ v us ∧ Snd P o ev hg Φ v us := by
 have hopx : ∀ {E : Env} {w : World} {ρv : Operand → Value}, (∀ x ∈ opnds o.op, rep E w (ev x) (ρv x)) → rep E w (ev x) (ρv x) := by
  intro E w ρv hops; exact hops x (by rw [ho]; simp [opnds])
 have hex : ∀ {w : World} {ρv : Operand → Value} {v : Value}, (Builtin.len_ #[T] o.type #[ρv x]).run P w = .ok v w → (execOp ρv o).run P w = .ok (.value v) w := by
  intro w ρv v hr
  unfold execOp
  simp only [ho, resolve, invoke, builtin, Sem.run_bind, Sem.run_pure, Result.andThen_ok, List.map_toArray, List.map_cons, List.map_nil, hr]
 unfold lenK at h
 split at h
 rotate_left
 ·exact h.elim
 rename_i ti hti
 have hT := (htb T ti hti).u
 split at h
 ·rename_i E0 hu
  rw [hu] at hT
  have hT' : P.underlying T = some (.slice E0) := hT
  have hsl : ∀ (w : World) (a : Option Addr) (n c : Nat), (Builtin.len_ #[T] o.type #[.slice a n c]).run P w = .ok (.int .i64 n) w := by
   intro w a n c
   simp [Builtin.len_, Sem.run_bind, run_underlying hT', goInt]
  split at h
  ·rename_i r ver sz off n hx
   obtain ⟨Φ, h, hc⟩ := curK_sound h
   refine ⟨_, _, _, h, Snd.pure fun p E H w ρv hr hh hops => ?_⟩
   have hv := hopx hops
   rw [hx, rep] at hv
   obtain ⟨a, c, hv, _⟩ := hv.2 (hc p E H w hr hh)
   exact ⟨_, hex (by rw [hv]; exact hsl w a n c), by rw [rep]⟩
  ·rename_i r ver i off n hx
   obtain ⟨Φ, h, hc⟩ := curK_sound h
   refine ⟨_, _, _, h, Snd.pure fun p E H w ρv hr hh hops => ?_⟩
   have hv := hopx hops
   rw [hx, rep] at hv
   obtain ⟨a, c, hv, _⟩ := hv.2 (hc p E H w hr hh)
   exact ⟨_, hex (by rw [hv]; exact hsl w a n c), by rw [rep]⟩
  ·rename_i z l hx
   refine ⟨_, _, _, h, Snd.pure fun p E H w ρv hr hh hops => ?_⟩
   have hv := hopx hops
   rw [hx, rep] at hv
   obtain ⟨a, n, c, hv, rfl, _⟩ := hv
   exact ⟨_, hex (by rw [hv]; exact hsl w a _ c), by rw [rep]⟩
  ·rename_i z sz α f d l hx
   refine ⟨_, _, _, h, Snd.pure fun p E H w ρv hr hh hops => ?_⟩
   have hv := hopx hops
   rw [hx, rep] at hv
   obtain ⟨a, n, c, hv, rfl, _⟩ := hv
   exact ⟨_, hex (by rw [hv]; exact hsl w a _ c), by rw [rep]⟩
  ·rename_i hx
   refine ⟨_, _, _, h, Snd.pure fun p E H w ρv hr hh hops => ?_⟩
   have hv := hopx hops
   rw [hx] at hv
   exact ⟨_, hex (by rw [rep_val hv]; exact hsl w none 0 0), by rw [rep]; rfl⟩
  ·exact h.elim
 ·rename_i hu
  rw [hu] at hT
  have hT' : P.underlying T = some .string := hT
  split at h
  ·rename_i s hx
   refine ⟨_, _, _, h, Snd.pure fun p E H w ρv hr hh hops => ?_⟩
   have hv := hopx hops
   rw [hx] at hv
   refine ⟨_, hex (v := .int .i64 s.size) ?_, by rw [rep]⟩
   rw [rep_val hv]
   simp [Builtin.len_, Sem.run_bind, run_underlying hT', goInt]
  ·exact h.elim
 ·exact h.elim
def min2K (mx : Bool) (x y : AV) (K : KF) : Prop := match x with
 | .val (.int k a) => match y with
  | .val (.int _ b) => K True (.val (.int k (if mx then max a b else min a b))) []
  | _ => False
 | _ => False
end
end Go.Proofs.YtmjpbmcbcppkfaaGreatDoor

/-! Abstract values: operations that write or make memory. Conditions: what 'TIok' says of the types. -/
namespace Go.Proofs.YtmjpbmcbcppkfaaGreatDoor
set_option linter.unusedVariables false
set_option linter.unusedSimpArgs false
open Go.RowKit
section
variable {P : Program} {o : Oper} {ev : Operand → AV} {hg : Nat → Option Ent}
def flatA : AV → List AV
 | .agg l => l
 | x => [x]
def oneA (hg : Nat → Option Ent) : AV → Prop
 | .val v => v.oneCell' = true
 | .bs _ _ => True
 | .sl _ _ _ _ _ => True
 | .cp _ _ _ => True
 | .clo _ _ => True
 | .mth _ _ => True
 | .ifc _ _ => True
 | .mp r ver => curK hg r ver fun Φ => Φ
 | .own r ver _ _ _ => curK hg r ver fun Φ => Φ
 | .ref r ver _ _ _ => curK hg r ver fun Φ => Φ
 | .pl r ver _ _ _ => curK hg r ver fun Φ => Φ
 | _ => False
def onesA (hg : Nat → Option Ent) : List AV → Prop
 | [] => True
 | x :: xs => oneA hg x ∧ onesA hg xs
theorem oneA_sound {x : AV} (h : oneA hg x) {E : Env} {H : List Ent} {w : World} (hr : HR E w H) (hh : ∀ (r : Nat) (e : Ent), hg r = some e → H[r]? = some e) {v : Value} (hv : rep E w x v) : v.oneCell' = true := by
 cases x <;> simp only [oneA] at h <;> rw [rep] at hv
 case val u => rw [hv]; exact h
 case bs z l => obtain ⟨a, n, c, rfl, _⟩ := hv; rfl
 case sl => obtain ⟨a, n, c, rfl, _⟩ := hv; rfl
 case own r ver sz off n =>
  obtain ⟨Φ, h1, h2⟩ := curK_sound h
  obtain ⟨a, c, rfl, _⟩ := hv.2 (h2 h1 E H w hr hh); rfl
 case ref r ver sz i j =>
  obtain ⟨Φ, h1, h2⟩ := curK_sound h
  rw [hv.2 (h2 h1 E H w hr hh)]; rfl
 case pl r ver i off n =>
  obtain ⟨Φ, h1, h2⟩ := curK_sound h
  obtain ⟨a, c, rfl, _⟩ := hv.2 (h2 h1 E H w hr hh); rfl
 case cp => obtain ⟨b, o', cs, rfl, _⟩ := hv; rfl
 case clo => obtain ⟨cs, rfl, _⟩ := hv; rfl
 case mth => obtain ⟨cs, rfl, _⟩ := hv; rfl
 case ifc => obtain ⟨u, rfl, _⟩ := hv; rfl
 case mp r ver =>
  obtain ⟨Φ, h1, h2⟩ := curK_sound h
  rw [hv.2 (h2 h1 E H w hr hh)]; rfl
theorem onesA_sound : ∀ {xs : List AV} (h : onesA hg xs) {E : Env} {H : List Ent} {w : World} (hr : HR E w H) (hh : ∀ (r : Nat) (e : Ent), hg r = some e → H[r]? = some e) {vs : List Value} (hv : reps E w xs vs), ∀ u ∈ vs, u.oneCell' = true
 | [], _, E, H, w, hr, hh, vs, hv => by rw [reps] at hv; subst hv; simp
 | x :: xs, h, E, H, w, hr, hh, vs, hv => by
  rw [reps] at hv
  obtain ⟨v, vs', rfl, h1, h2⟩ := hv
  intro u hu
  rcases List.mem_cons.1 hu with rfl | hu
  ·exact oneA_sound h.1 hr hh h1
  ·exact onesA_sound h.2 hr hh h2 u hu
theorem flat_rep {x : AV} (h : onesA hg (flatA x)) {E : Env} {H : List Ent} {w : World} (hr : HR E w H) (hh : ∀ (r : Nat) (e : Ent), hg r = some e → H[r]? = some e) {v : Value} (hv : rep E w x v) :
    reps E w (flatA x) v.cells.toList ∧ ∀ u ∈ v.cells.toList, u.oneCell' = true := by
 have key : reps E w (flatA x) v.cells.toList := by
  cases x with
  | agg l =>
   rw [rep] at hv
   obtain ⟨cs, rfl, h1⟩ := hv
   simpa [flatA, Value.cells] using h1
  | _ =>
   have h1 : v.oneCell' = true := oneA_sound h.1 hr hh hv
   have : v.cells.toList = [v] := by cases v <;> simp_all [Value.oneCell', Value.cells]
   rw [this]
   simp only [flatA, reps]
   exact ⟨v, [], rfl, hv, rfl⟩
 exact ⟨key, onesA_sound h hr hh key⟩
theorem reps_append {E : Env} {w : World} : ∀ {xs ys : List AV} {us vs : List Value}, reps E w xs us → reps E w ys vs → reps E w (xs ++ ys) (us ++ vs)
 | [], ys, us, vs, h, h' => by rw [reps] at h; subst h; exact h'
 | x :: xs, ys, us, vs, h, h' => by
  rw [reps] at h
  obtain ⟨v, vs', rfl, h1, h2⟩ := h
  simp only [List.cons_append, reps]
  exact ⟨v, _, rfl, h1, reps_append h2 h'⟩
def putA (l : List AV) (j : Nat) (new : List AV) : List AV := takeL l j ++ (new ++ dropL l (j + new.length))
theorem reps_put {E : Env} {w : World} {xs new : List AV} {us vs : List Value} (j : Nat) (h : reps E w xs us) (h' : reps E w new vs) : reps E w (putA xs j new) (us.take j ++ (vs ++ us.drop (j + vs.length))) := by
 unfold putA
 rw [takeL_eq, dropL_eq, (reps_get h').1]
 exact reps_append (reps_take j h) (reps_append h' (reps_drop _ h))
theorem Out.store {E : Env} {w : World} {H : List Ent} (hr : HR E w H) {r : Nat} {e : Ent} (he : H[r]? = some e) {i j : Nat} {ys new : List AV} {vs : List Value} (hat : e.bd.at i = some ys) {bd' : Bd} (hsz : bd'.sz = e.bd.sz) (hct : bd'.count = e.bd.count)
    (hbd : ∀ i' ys', bd'.at i' = some ys' → (i' = i ∧ ys' = putA ys j new) ∨ (i' ≠ i ∧ e.bd.at i' = some ys')) (hnew : reps E w new vs) (hfit : j + new.length ≤ e.bd.sz) (hnl : bd'.lpB = false) :
    Out E E w (w.setCells (E.ρ r) (i * e.bd.sz + j) vs) H [(r, ⟨e.ver, bd'⟩)] := by
 have hc : e.bd.cel = true := by cases hb : e.bd <;> simp [Bd.cel] <;> simp [hb, Bd.at] at hat
 have hl := Bd.live_of hc
 have hna : ¬ E.abs r := fun q => by have := hr.abs r e he q; have := Bd.at_lt hat; omega
 obtain ⟨cur, T, lo, hi, h1, h2, h3, h4⟩ := (hr.ent r e he ⟨hl, hna⟩).blk hc
 obtain ⟨hch, hs⟩ := setCells_ch (E.ρ r) vs (i * e.bd.sz + j) w
 have hvl : new.length = vs.length := (reps_get hnew).1
 have hlt := Bd.at_lt hat
 have hfit2 : i * e.bd.sz + j + vs.length ≤ cur.size := by
  have h5 : (i + 1) * e.bd.sz ≤ e.bd.count * e.bd.sz := Nat.mul_le_mul_right _ hlt
  rw [Nat.add_mul, Nat.one_mul] at h5
  omega
 have hrow := heap_setCells_row w (E.ρ r) T (lo, hi) vs (i * e.bd.sz + j) cur h1 hfit2
 have hsame : E.set r (E.ρ r) e.ver = E := Env.set_same E rfl (hr.ver r e he).symm hna
 have := Out.one (w' := w.setCells (E.ρ r) (i * e.bd.sz + j) vs) (bd' := bd') (b := E.ρ r) (v' := e.ver) hr he (Bd.isP_of_lpB hnl) (.inl ⟨rfl, rfl, hna⟩) (.inl ⟨rfl, hl, hna⟩) hch.os hch.tape hch.output (by omega) (fun k hk hne => hch.block k hk hne) ?_ ?_
 ·rw [hsame] at this; exact this
 ·intro cur2 T2 fz2 h6
  rw [h1] at h6
  cases h6
  exact ⟨_, _, _, hrow, by simp; omega⟩
 ·intro X
  rw [hsame] at X ⊢
  refine ⟨fun _ => ⟨_, _, _, _, hrow, ?_, ?_, ?_⟩, fun _ _ _ e => absurd e (Bd.not_lp hnl)⟩
  ·rcases h2 with h | h
   ·exact .inl h
   ·refine .inr ?_
    simp only [List.size_toArray, List.length_append, List.length_take, List.length_drop, Array.length_toList]
    omega
  ·rw [hsz, hct]
   simp only [List.size_toArray, List.length_append, List.length_take, List.length_drop, Array.length_toList]
   omega
  ·intro i' ys' hy'
   rw [hsz]
   have hcl : cur.toList.length = cur.size := by simp
   rcases hbd i' ys' hy' with ⟨rfl, rfl⟩ | ⟨hne, hy2⟩
   ·obtain ⟨cs, h5, h6, h7⟩ := h4 i' ys hat
    refine ⟨cs.take j ++ (vs ++ cs.drop (j + vs.length)), ?_, reps_ext X _ _ (reps_put j h6 hnew), ?_⟩
    ·simp only [List.length_append, List.length_take, List.length_drop]; omega
    ·intro k u hu
     simp only [List.getElem?_toArray, List.getElem?_append, List.getElem?_take, List.getElem?_drop, List.length_take, List.length_append, Array.length_toList] at hu ⊢
     by_cases hkj : k < j
     ·have a1 : k < min j cs.length := by omega
      have a2 : i' * e.bd.sz + k < min (i' * e.bd.sz + j) cur.size := by omega
      have a3 : i' * e.bd.sz + k < min (i' * e.bd.sz + j) cur.size + vs.length := by omega
      have a4 : i' * e.bd.sz + k < i' * e.bd.sz + j := by omega
      simp only [a1, if_true, hkj] at hu
      simp only [a2, a3, a4, if_true]
      have := h7 k u hu
      simpa using this
     ·by_cases hkm : k < j + vs.length
      ·have a1 : ¬ k < min j cs.length := by omega
       have a2 : ¬ i' * e.bd.sz + k < min (i' * e.bd.sz + j) cur.size := by omega
       have a3 : i' * e.bd.sz + k < min (i' * e.bd.sz + j) cur.size + vs.length := by omega
       have a5 : k - min j cs.length < vs.length := by omega
       have a6 : i' * e.bd.sz + k - min (i' * e.bd.sz + j) cur.size = k - min j cs.length := by omega
       simp only [a1, a5, if_true, if_false] at hu
       simp only [a2, a3, if_true, if_false, a6]
       exact hu
      ·have a1 : ¬ k < min j cs.length := by omega
       have a3 : ¬ i' * e.bd.sz + k < min (i' * e.bd.sz + j) cur.size + vs.length := by omega
       have a5 : ¬ k - min j cs.length < vs.length := by omega
       simp only [a1, a5, if_false] at hu
       simp only [a3, if_false]
       have e1 : j + vs.length + (k - min j cs.length - vs.length) = k := by omega
       rw [e1] at hu
       have e2 : i' * e.bd.sz + j + vs.length + (i' * e.bd.sz + k - (min (i' * e.bd.sz + j) cur.size + vs.length)) = i' * e.bd.sz + k := by omega
       rw [e2]
       have := h7 k u hu
       simpa using this
   ·obtain ⟨cs, h5, h6, h7⟩ := h4 i' ys' hy2
    refine ⟨cs, h5, reps_ext X _ _ h6, fun k u hu => ?_⟩
    have hk : k < e.bd.sz := by have := (List.getElem?_eq_some_iff.1 hu).1; omega
    have hlt' := Bd.at_lt hy2
    have hb : i' * e.bd.sz + k < cur.size := by
     have h5 : (i' + 1) * e.bd.sz ≤ e.bd.count * e.bd.sz := Nat.mul_le_mul_right _ hlt'
     rw [Nat.add_mul, Nat.one_mul] at h5
     omega
    have hout : i' * e.bd.sz + k < i * e.bd.sz + j ∨ i * e.bd.sz + j + vs.length ≤ i' * e.bd.sz + k := by
     rcases Nat.lt_or_gt_of_ne hne with h | h
     ·left
      have h5 : (i' + 1) * e.bd.sz ≤ i * e.bd.sz := Nat.mul_le_mul_right _ h
      rw [Nat.add_mul, Nat.one_mul] at h5
      omega
     ·right
      have h5 : (i + 1) * e.bd.sz ≤ i' * e.bd.sz := Nat.mul_le_mul_right _ h
      rw [Nat.add_mul, Nat.one_mul] at h5
      omega
    have := h7 k u hu
    simp only [List.getElem?_toArray, List.getElem?_append, List.getElem?_take, List.getElem?_drop, List.length_take, List.length_append, Array.length_toList]
    rcases hout with h | h
    ·have a2 : i' * e.bd.sz + k < min (i * e.bd.sz + j) cur.size := by omega
     have a3 : i' * e.bd.sz + k < min (i * e.bd.sz + j) cur.size + vs.length := by omega
     simp only [a2, a3, h, if_true]
     simpa using this
    ·have a3 : ¬ i' * e.bd.sz + k < min (i * e.bd.sz + j) cur.size + vs.length := by omega
     simp only [a3, if_false]
     have e2 : i * e.bd.sz + j + vs.length + (i' * e.bd.sz + k - (min (i * e.bd.sz + j) cur.size + vs.length)) = i' * e.bd.sz + k := by omega
     rw [e2]
     simpa using this
/-! store -/
def storeK (tb : TypeId → Option TI) (hg : Nat → Option Ent) (T : TypeId) (x y : AV) (K : KF) : Prop := match tb T with
 | none => False
 | some ti => match x with
  | .ref r ver sz i j => match hg r with
   | none => False
   | some e => match e.bd with
    | .bytes l => match y with
     | .val (.int .u8 n) => K (ver = e.ver ∧ sz = 1 ∧ j = 0 ∧ i < l.length ∧ (0 ≤ n ∧ n ≤ 255) ∧ ti.sz = 1) .any [(r, ⟨e.ver, .bytes (l.set i (UInt8.ofNat n.toNat))⟩)]
     | _ => False
    | .row sz' f d l => ∃ y', K (ver = e.ver ∧ sz = sz' ∧ i < l.length ∧ onesA hg (flatA y) ∧ (flatA y).length = ti.sz ∧ j + ti.sz ≤ sz' ∧ f y' = putA (f (l.getD i d)) j (flatA y)) .any [(r, ⟨e.ver, .row sz' f d (l.set i y')⟩)]
    | .obj l => K (ver = e.ver ∧ i = 0 ∧ onesA hg (flatA y) ∧ (flatA y).length = ti.sz ∧ j + ti.sz ≤ l.length) .any [(r, ⟨e.ver, .obj (putA l j (flatA y))⟩)]
    | .dead => False
    | .lp .. => False
    | .pool _ => False
  | .plr r ver i k => match hg r with
   | none => False
   | some e => match e.bd with
    | .pool ls => match y with
     | .val (.int .u8 n) => K (ver = e.ver ∧ i < ls.length ∧ k < (ls.getD i []).length ∧ (0 ≤ n ∧ n ≤ 255) ∧ ti.sz = 1) .any [(r, ⟨e.ver, .pool (ls.set i ((ls.getD i []).set k (UInt8.ofNat n.toNat)))⟩)]
     | _ => False
    | _ => False
  | _ => False
theorem Out.pool {E : Env} {w w' : World} {H : List Ent} (hr : HR E w H) {r v : Nat} {ls ls' : List (List UInt8)} (he : H[r]? = some ⟨v, .pool ls⟩) {i b : Nat} (hb : E.pl r i = some b) (os : w'.os = w.os) (tape : w'.tape = w.tape) (output : w'.output = w.output) (size : w.heap.size ≤ w'.heap.size)
    (blk : ∀ k, k < w.heap.size → k ≠ b → w'.heap[k]? = w.heap[k]?) (sz : ∀ cur T fz, w.heap[b]? = some (.cells cur T fz) → ∃ cur' T' fz', w'.heap[b]? = some (.cells cur' T' fz') ∧ cur.size ≤ cur'.size)
    (hp : PoolRep (E.pl r) w' ls') : Out E E w w' H [(r, ⟨v, .pool ls'⟩)] := by
 have hlt0 : r < H.length := (List.getElem?_eq_some_iff.1 he).1
 have hB : Blk E r ⟨v, .pool ls⟩ b := .inr ⟨rfl, i, hb⟩
 have gr : ∀ (k : Nat) cur T fz, w.heap[k]? = some (.cells cur T fz) → ∃ cur' T' fz', w'.heap[k]? = some (.cells cur' T' fz') ∧ cur.size ≤ cur'.size := fun k cur T fz hk => by
  by_cases h : k = b
  ·subst h; exact sz cur T fz hk
  ·exact ⟨cur, T, fz, by rw [blk k (Array.getElem?_eq_some_iff.1 hk).1 h]; exact hk, Nat.le_refl _⟩
 have X : Ext E E w w' := ⟨fun _ => Nat.le_refl _, fun _ _ => rfl, fun _ _ => Iff.rfl, fun _ _ h => h, fun z c hz => blk c (hr.zlt z c hz) (fun q => hr.zrow r _ b he hB z (q ▸ hz)), gr, fun _ _ _ _ h => h⟩
 have hget : ∀ (q : Nat) (e : Ent), (updH H [(r, ⟨v, .pool ls'⟩)])[q]? = some e → q = r ∧ e = ⟨v, .pool ls'⟩ ∨ q ≠ r ∧ H[q]? = some e := by
  intro q e h
  simp only [updH, setL_eq] at h
  by_cases hrr : q = r
  ·subst hrr; rw [List.getElem?_set_self hlt0] at h; exact .inl ⟨rfl, (Option.some.inj h).symm⟩
  ·rw [List.getElem?_set_ne (Ne.symm hrr)] at h; exact .inr ⟨hrr, h⟩
 have hne : ∀ (q : Nat) (e : Ent), q ≠ r → H[q]? = some e → ¬ Blk E q e b := fun q e h1 h2 h3 => h1 (hr.inj q r e _ b h2 he h3 hB)
 have hblk : ∀ (q : Nat) (e : Ent) (c : Nat), (updH H [(r, ⟨v, .pool ls'⟩)])[q]? = some e → Blk E q e c → ∃ e0, H[q]? = some e0 ∧ Blk E q e0 c := by
  intro q e c h h2
  rcases hget q e h with ⟨rfl, rfl⟩ | ⟨_, h1⟩
  ·rcases h2 with ⟨h2, _⟩ | ⟨_, h2⟩
   ·cases h2.1
   ·exact ⟨_, he, .inr ⟨rfl, h2⟩⟩
  ·exact ⟨e, h1, h2⟩
 refine ⟨X, ⟨?_, ?_, ?_, ?_, fun z c h => Nat.lt_of_lt_of_le (hr.zlt z c h) size, ?_, ?_, hr.gl.ext X, ?_⟩, os, tape, output, size, fun _ _ h => .inl h, gr, ?_, ?_⟩
 ·intro q e h
  rcases hget q e h with ⟨rfl, rfl⟩ | ⟨_, h2⟩
  ·exact hr.ver q ⟨v, .pool ls⟩ he
  ·exact hr.ver q e h2
 ·intro q e h hl
  rcases hget q e h with ⟨rfl, rfl⟩ | ⟨h1, h2⟩
  ·cases hl.1
  ·exact (hr.ent q e h2 hl).ext X (blk _ (hr.lt h2 hl) (fun k => hne q e h1 h2 (k ▸ Blk.of hl)))
 ·intro q e h ha
  rcases hget q e h with ⟨rfl, rfl⟩ | ⟨h1, h2⟩
  ·have := hr.abs q _ he ha; cases this
  ·exact hr.abs q e h2 ha
 ·intro q q' e e' c h h' hl hl'
  obtain ⟨e0, h1, h2⟩ := hblk q e c h hl
  obtain ⟨e1, h3, h4⟩ := hblk q' e' c h' hl'
  exact hr.inj q q' e0 e1 c h1 h3 h2 h4
 ·intro q e c h hl
  obtain ⟨e0, h1, h2⟩ := hblk q e c h hl
  exact hr.zrow q e0 c h1 h2
 ·intro q h
  simp only [updH, setL_eq, List.length_set] at h
  exact hr.top q h
 ·intro q u ms h
  rcases hget q _ h with ⟨rfl, h1⟩ | ⟨h1, h2⟩
  ·cases h1; exact hp
  ·exact (hr.pool q u ms h2).cong fun k c hc => blk c ((hr.pool q u ms h2).lt hc) (fun q0 => hne q _ h1 h2 (q0 ▸ .inr ⟨rfl, k, hc⟩))
 ·intro k hk h
  refine blk k hk fun q => ?_
  subst q
  exact h r _ he hB (by simp)
 ·intro q e c h hl
  obtain ⟨e0, h1, h2⟩ := hblk q e c h hl
  exact .inr ⟨q, e0, h1, h2, .inl rfl⟩
theorem store_run {T : TypeId} {ti : TI} (ht : TIok P T ti) {E : Env} {w : World} {H : List Ent} (hr : HR E w H) {r : Nat} {e : Ent} (he : H[r]? = some e) {i j : Nat} {ys new : List AV} (hat : e.bd.at i = some ys) {v : Value}
    (hnew : reps E w new v.cells.toList) (h1 : ∀ u ∈ v.cells.toList, u.oneCell' = true) (hn : new.length = ti.sz) (hfit : j + ti.sz ≤ e.bd.sz) :
    (storeVar T ⟨E.ρ r, i * e.bd.sz + j, none⟩ v).run P w = .ok () (w.setCells (E.ρ r) (i * e.bd.sz + j) v.cells.toList) := by
 have hc : e.bd.cel = true := by cases hb : e.bd <;> simp [Bd.cel] <;> simp [hb, Bd.at] at hat
 have hl := Bd.live_of hc
 have hna : ¬ E.abs r := fun q => by have := hr.abs r e he q; have := Bd.at_lt hat; omega
 obtain ⟨cur, T', lo, hi, h2, h3, h4, h5⟩ := (hr.ent r e he ⟨hl, hna⟩).blk hc
 have hvl := (reps_get hnew).1
 have hlt := Bd.at_lt hat
 have hfit2 : i * e.bd.sz + j + ti.sz ≤ cur.size := by
  have h5 : (i + 1) * e.bd.sz ≤ e.bd.count * e.bd.sz := Nat.mul_le_mul_right _ hlt
  rw [Nat.add_mul, Nat.one_mul] at h5
  omega
 exact run_storeVar_at (n := ti.sz) (fun w => ht.sizeOf w) h2 (h3.imp Nat.le_of_eq id) rfl (by omega) hfit2 h1
theorem store_sound {tb : TypeId → Option TI} (htb : TbOk P tb) {T : TypeId} {x y : Operand} (ho : o.op = .store T x y) {K : KF} (h : storeK tb hg T (ev x) (ev y) K) : ∃ Φ v us, K Φ v us ∧ Snd P o ev hg Φ v us := by
 unfold storeK at h
 split at h
 ·exact h.elim
 rename_i ti hti
 have ht := htb T ti hti
 split at h
 rotate_left
 ·rename_i r ver i k hx
  split at h
  ·exact h.elim
  rename_i e he
  split at h
  rotate_left
  ·exact h.elim
  rename_i ls hb
  split at h
  rotate_left
  ·exact h.elim
  rename_i n hy
  refine ⟨_, _, _, h, fun p E H w ρv hr hh hops => ?_⟩
  obtain ⟨p1, p2, p3, p4, p5⟩ := p
  have hvx := hops x (by rw [ho]; simp [opnds])
  have hvy := hops y (by rw [ho]; simp [opnds])
  rw [hx, rep] at hvx
  rw [hy] at hvy
  have hH : H[r]? = some ⟨e.ver, .pool ls⟩ := by rw [hh r e he, ← hb]
  obtain ⟨b, h1, hpt⟩ := hvx.2 (p1.trans (hr.ver r _ hH).symm)
  have hli : ls[i]? = some (ls.getD i []) := by simp [List.getD, p2]
  have hP := hr.pool r _ ls hH
  obtain ⟨cur, T0, lo, hi, g1, g2, g3, g4⟩ := hP.blk i _ b hli h1
  have e1 : ((UInt8.ofNat n.toNat).toNat : Int) = n := by simp; omega
  have hrun : (storeVar T ⟨b, k, none⟩ (.int .u8 n)).run P w = .ok () (w.setCells b k [.int .u8 n]) :=
   run_storeVar_at (n := ti.sz) (fun w => ht.sizeOf w) g1 (g2.imp Nat.le_of_eq id) rfl (by rw [p5]; rfl) (by omega) (by simp [Value.oneCell'])
  obtain ⟨hch, hs⟩ := setCells_ch b [Value.int .u8 n] k w
  have hrow := heap_setCells_row w b T0 (lo, hi) [Value.int .u8 n] k cur g1 (by simp; omega)
  refine ⟨undef, _, E, .inr ⟨exec_store ho hpt (rep_val hvy) hrun, rfl⟩, by rw [rep]; trivial, Out.pool hr hH h1 hch.os hch.tape hch.output (by omega) (fun k' hk hne => hch.block k' hk hne) (fun cur2 T2 fz2 h6 => ?_) ?_⟩
  ·rw [g1] at h6; cases h6
   exact ⟨_, _, _, hrow, by simp; omega⟩
  ·refine ⟨fun i' l' h7 h8 => ?_, fun i' l' b' h7 h8 => ?_, hP.inj, fun i' b' h7 => by rw [List.length_set]; exact hP.top i' b' h7⟩
   ·rw [List.getElem?_set] at h7
    split at h7
    ·rename_i hii; subst hii; exact ⟨b, h1⟩
    ·exact hP.has i' l' h7 h8
   ·rw [List.getElem?_set] at h7
    split at h7
    ·rename_i hii; subst hii
     cases h7
     rw [h1] at h8; cases h8
     refine ⟨_, _, _, _, hrow, ?_, ?_, fun j x hx => ?_⟩
     ·refine g2.imp id fun q => ?_
      simp only [List.size_toArray, List.length_append, List.length_take, List.length_drop, Array.length_toList, List.length_cons, List.length_nil]; omega
     ·simp only [List.size_toArray, List.length_append, List.length_take, List.length_drop, Array.length_toList, List.length_cons, List.length_nil, List.length_set]; omega
     ·have hjl : j < (ls.getD i []).length := by have := (List.getElem?_eq_some_iff.1 hx).1; simpa using this
      have e9 : ∀ (u : Value), (cur.toList.take k ++ [u] ++ cur.toList.drop (k + 1)) = cur.toList.set k u := fun u => by
       rw [List.set_eq_take_append_cons_drop]
       rw [if_pos (by simp; omega)]
       simp
      rw [List.getElem?_toArray]
      simp only [List.length_cons, List.length_nil, Nat.zero_add]
      rw [e9, List.getElem?_set]
      rw [List.getElem?_set] at hx
      by_cases hjk : k = j
      ·subst hjk
       rw [if_pos rfl, if_pos p3] at hx
       cases hx
       rw [if_pos rfl, if_pos (by simp; omega)]
       simp only [bv]; rw [e1]
      ·rw [if_neg hjk] at hx
       rw [if_neg hjk]
       have := g4 j x hx
       simpa using this
    ·rename_i hii
     have hne : b' ≠ b := fun q => hii (hP.inj i i' b h1 (q ▸ h8))
     obtain ⟨cur', T', lo', hi', g5, g6⟩ := hP.blk i' l' b' h7 h8
     exact ⟨cur', T', lo', hi', by rw [hch.block b' (hP.lt h8) hne]; exact g5, g6⟩
 ·exact h.elim
 rename_i r ver sz i j hx
 split at h
 ·exact h.elim
 rename_i e he
 have fin : ∀ {Φ : Prop} {bd' : Bd}, bd'.lpB = false → K Φ .any [(r, ⟨e.ver, bd'⟩)] → (Φ → ver = e.ver ∧ i * sz = i * e.bd.sz ∧ ∃ ys, e.bd.at i = some ys ∧ bd'.sz = e.bd.sz ∧ bd'.count = e.bd.count ∧ j + ti.sz ≤ e.bd.sz ∧ ∃ new, new.length = ti.sz ∧
     (∀ (E : Env) (H : List Ent) (w : World) (v : Value), HR E w H → (∀ (r : Nat) (e : Ent), hg r = some e → H[r]? = some e) → rep E w (ev y) v → reps E w new v.cells.toList ∧ ∀ u ∈ v.cells.toList, u.oneCell' = true) ∧
     (∀ i' ys', bd'.at i' = some ys' → (i' = i ∧ ys' = putA ys j new) ∨ (i' ≠ i ∧ e.bd.at i' = some ys'))) → ∃ Φ v us, K Φ v us ∧ Snd P o ev hg Φ v us := by
  intro Φ bd' hnlp hK hΦ
  refine ⟨Φ, _, _, hK, fun p E H w ρv hr hh hops => ?_⟩
  obtain ⟨p1, p2, ys, hat, hsz, hct, hfit, new, hnl, hnew, hbd⟩ := hΦ p
  have hvx := hops x (by rw [ho]; simp [opnds])
  have hvy := hops y (by rw [ho]; simp [opnds])
  obtain ⟨hn1, hn2⟩ := hnew E H w _ hr hh hvy
  rw [hx, rep] at hvx
  have hH := hh r e he
  have hpt := hvx.2 (p1.trans (hr.ver r e hH).symm)
  rw [p2] at hpt
  have hrun := store_run ht hr hH hat hn1 hn2 hnl hfit
  refine ⟨undef, _, E, .inr ⟨exec_store ho hpt rfl hrun, rfl⟩, by rw [rep]; trivial, Out.store hr hH hat hsz hct hbd hn1 (by omega) hnlp⟩
 have he' : e = ⟨e.ver, e.bd⟩ := rfl
 split at h
 ·rename_i l hb
  split at h
  rotate_left
  ·exact h.elim
  rename_i n hy
  refine fin rfl h fun p => ?_
  obtain ⟨p1, p2, p3, p4, p5, p6⟩ := p
  refine ⟨p1, by rw [hb, p2]; rfl, [.val (bv (l.getD i 0))], ?_, by rw [hb]; rfl, by rw [hb]; simp [Bd.count], by rw [hb, p3, p6]; simp [Bd.sz], [.val (.int .u8 n)], by rw [p6]; rfl, ?_, ?_⟩
  ·rw [hb]; simp [Bd.at, p4, List.getD]
  ·intro E H w v hr hh hv
   rw [hy] at hv
   rw [rep_val hv]
   refine ⟨?_, by simp [Value.cells, Value.oneCell']⟩
   simp only [Value.cells, reps, rep]
   exact ⟨_, _, rfl, rfl, rfl⟩
  ·intro i' ys' h'
   rw [hb]
   simp only [Bd.at, List.getElem?_set] at h' ⊢
   by_cases hi : i = i'
   ·subst hi
    left
    simp only [if_true, p4, Option.map_some, Option.some.injEq] at h'
    refine ⟨rfl, ?_⟩
    rw [← h', p3]
    have e1 : ((UInt8.ofNat n.toNat).toNat : Int) = n := by simp; omega
    simp [putA, takeL, dropL, bv]; omega
   ·right
    simp only [hi, if_false] at h'
    exact ⟨fun e => hi e.symm, h'⟩
 ·rename_i sz' α f d l hb
  obtain ⟨y', h⟩ := h
  refine fin rfl h fun p => ?_
  obtain ⟨p1, p2, p3, p4, p5, p6, p7⟩ := p
  refine ⟨p1, by rw [hb, p2]; rfl, f (l.getD i d), ?_, by rw [hb]; rfl, by rw [hb]; simp [Bd.count], by rw [hb]; exact p6, flatA (ev y), p5, ?_, ?_⟩
  ·rw [hb]; simp [Bd.at, p3, List.getD]
  ·exact fun E H w v hr hh hv => flat_rep p4 hr hh hv
  ·intro i' ys' h'
   rw [hb]
   simp only [Bd.at, List.getElem?_set] at h' ⊢
   by_cases hi : i = i'
   ·subst hi
    left
    simp only [if_true, p3, Option.map_some, Option.some.injEq] at h'
    exact ⟨rfl, by rw [← h', p7]⟩
   ·right
    simp only [hi, if_false] at h'
    exact ⟨fun e => hi e.symm, h'⟩
 ·rename_i l hb
  refine fin rfl h fun p => ?_
  obtain ⟨p1, p2, p4, p5, p6⟩ := p
  have hlen : (putA l j (flatA (ev y))).length = l.length := by
   unfold putA
   rw [takeL_eq, dropL_eq]
   simp only [List.length_append, List.length_take, List.length_drop]; omega
  refine ⟨p1, by rw [p2]; simp, l, by rw [hb, p2]; rfl, by rw [hb]; exact hlen, by rw [hb]; rfl, by rw [hb]; exact p6, flatA (ev y), p5, fun E H w v hr hh hv => flat_rep p4 hr hh hv, ?_⟩
  intro i' ys' h'
  rw [hb]
  simp only [Bd.at] at h' ⊢
  split at h'
  ·rename_i hi
   left
   exact ⟨by rw [hi, p2], (Option.some.inj h').symm⟩
  ·cases h'
 ·exact h.elim
 ·exact h.elim
 ·exact h.elim

/-! new rows -/
theorem Out.new {E : Env} {w : World} {H : List Ent} (hr : HR E w H) {r : Nat} {e : Ent} (he : H[r]? = some e) {bd' : Bd} {cs : List Value} {T : TypeId} (hct : bd'.count * bd'.sz ≤ cs.length)
    (hat : ∀ i ys, bd'.at i = some ys → ∃ us, us.length = bd'.sz ∧ reps E w ys us ∧ ∀ j u, us[j]? = some u → cs[i * bd'.sz + j]? = some u) (hnl : bd'.lpB = false := by rfl) :
    Out E (E.set r w.heap.size (e.ver + 1)) w (w.alloc (.cells cs.toArray T)) H [(r, ⟨e.ver + 1, bd'⟩)] := by
 refine Out.one hr he (Bd.isP_of_lpB hnl) (.inr (by omega)) (.inr (Nat.le_refl _)) rfl rfl rfl (by simp) (fun k hk _ => Below.heap_alloc _ _ _ hk) (fun cur T fz h => ?_) (fun X => ⟨fun _ => ⟨_, T, 0, 0, heap_alloc_new w _, .inl rfl, by simpa using hct, fun i ys hy => ?_⟩, fun _ _ _ e => absurd e (Bd.not_lp hnl)⟩)
 ·have := (Array.getElem?_eq_some_iff.1 h).1; omega
 ·obtain ⟨us, h1, h2, h3⟩ := hat i ys hy
  exact ⟨us, h1, reps_ext X _ _ h2, fun j u hu => by simpa using h3 j u hu⟩
def newK (hg : Nat → Option Ent) (p : Nat) (o : Oper) (cells : List AV) (K : KF) : Prop := match o.dst with
 | none => False
 | some d => match hg (p + d) with
  | none => False
  | some e => K True (.ref (p + d) (e.ver + 1) cells.length 0 0) [(p + d, ⟨e.ver + 1, .obj cells⟩)]
theorem new_sound {p : Nat} {cells : List AV} {K : KF} (h : newK hg p o cells K) (hrun : ∀ (E : Env) (H : List Ent) (w : World) (ρv : Operand → Value), HR E w H → (∀ (r : Nat) (e : Ent), hg r = some e → H[r]? = some e) → (∀ x ∈ opnds o.op, rep E w (ev x) (ρv x)) →
    ∃ cs T, reps E w cells cs ∧ (execOp ρv o).run P w = .ok (.value (.pointer (some ⟨w.heap.size, 0, none⟩))) (w.alloc (.cells cs.toArray T))) : ∃ Φ v us, K Φ v us ∧ Snd P o ev hg Φ v us := by
 unfold newK at h
 split at h
 ·exact h.elim
 rename_i d hd
 split at h
 ·exact h.elim
 rename_i e he
 refine ⟨_, _, _, h, fun p' E H w ρv hr hh hops => ?_⟩
 obtain ⟨cs, T, h1, h2⟩ := hrun E H w ρv hr hh hops
 have hl := (reps_get h1).1
 refine ⟨_, _, _, .inl h2, ?_, Out.new (T := T) (cs := cs) hr (hh _ _ he) (by simp [Bd.count, Bd.sz, hl]) (fun i ys hy => ?_)⟩
 ·rw [rep, Env.set_ver, Env.set_ρ]
  exact ⟨Nat.le_refl _, fun _ => by simp⟩
 ·simp only [Bd.at] at hy
  split at hy
  ·rename_i hi
   subst hi
   cases hy
   exact ⟨cs, hl.symm, h1, fun j u hu => by simpa using hu⟩
  ·cases hy
def allocK (tb : TypeId → Option TI) (hg : Nat → Option Ent) (p : Nat) (o : Oper) (T : TypeId) (K : KF) : Prop := match tb T with
 | none => False
 | some ti => newK hg p o (ti.zero.map .val) K
theorem reps_vals {E : Env} {w : World} : ∀ (l : List Value), reps E w (l.map .val) l
 | [] => by simp [reps]
 | v :: l => by simp only [List.map_cons, reps, rep]; exact ⟨v, l, rfl, rfl, reps_vals l⟩
theorem alloc_sound {tb : TypeId → Option TI} (htb : TbOk P tb) {p : Nat} {T : TypeId} (ho : o.op = .alloc T) {K : KF} (h : allocK tb hg p o T K) : ∃ Φ v us, K Φ v us ∧ Snd P o ev hg Φ v us := by
 unfold allocK at h
 split at h
 ·exact h.elim
 rename_i ti hti
 obtain ⟨z, hz, hzc⟩ := (htb T ti hti).info
 obtain ⟨i, hi, h1, h2, h3⟩ := info_parts hz
 refine new_sound h fun E H w ρv hr hh hops => ⟨ti.zero, T, reps_vals _, ?_⟩
 have e : z.cells = ti.zero.toArray := by rw [← hzc]
 unfold execOp
 simp [ho, Instr.alloc, zeroValue, typeInfo, hi, h1, newVar, newRow, e]
def boxK (hg : Nat → Option Ent) (p : Nat) (o : Oper) (x : AV) (K : KF) : Prop := newK hg p o (flatA x) fun Φ v us => K (Φ ∧ onesA hg (flatA x)) v us
theorem box_sound {p : Nat} {T : TypeId} {x : Operand} (ho : o.op = .box T x) {K : KF} (h : boxK hg p o (ev x) K) : ∃ Φ v us, K Φ v us ∧ Snd P o ev hg Φ v us := by
 unfold boxK newK at h
 split at h
 ·exact h.elim
 rename_i d hd
 split at h
 ·exact h.elim
 rename_i e he
 refine ⟨_, _, _, h, fun p' E H w ρv hr hh hops => ?_⟩
 have hv := hops x (by rw [ho]; simp [opnds])
 obtain ⟨h1, _⟩ := flat_rep p'.2 hr hh hv
 have hl := (reps_get h1).1
 refine ⟨.pointer (some ⟨w.heap.size, 0, none⟩), w.alloc (.cells (ρv x).cells T), E.set (p + d) w.heap.size (e.ver + 1), .inl ?_, ?_, ?_⟩
 ·unfold execOp
  simp [ho, Instr.box, newVar, newRow]
 ·rw [rep, Env.set_ver, Env.set_ρ]
  exact ⟨Nat.le_refl _, fun _ => by simp⟩
 ·have := Out.new (T := T) (cs := (ρv x).cells.toList) (bd' := .obj (flatA (ev x))) hr (hh _ _ he) (by simp [Bd.count, Bd.sz, hl]) (fun i ys hy => by
    simp only [Bd.at] at hy
    split at hy
    ·rename_i hi
     subst hi
     cases hy
     exact ⟨_, hl.symm, h1, fun j u hu => by simpa using hu⟩
    ·cases hy)
  simpa using this
end
end Go.Proofs.YtmjpbmcbcppkfaaGreatDoor

/-! Abstract values: append, make, literals. Conditions: what 'TIok' says of the types. -/
namespace Go.Proofs.YtmjpbmcbcppkfaaGreatDoor
set_option linter.unusedVariables false
set_option linter.unusedSimpArgs false
open Go.RowKit
section
variable {P : Program} {o : Oper} {ev : Operand → AV} {hg : Nat → Option Ent}
def Env.setAbs (E : Env) (r v : Nat) : Env := { E with ver := fun k => if k = r then v else E.ver k, abs := fun k => if k = r then True else E.abs k }
theorem Out.absent {E : Env} {w : World} {H : List Ent} {r0 v' : Nat} {e0 : Ent} {bd' : Bd} (hr : HR E w H) (h0 : H[r0]? = some e0) (hv : e0.ver < v') (hc : bd'.count = 0) : Out E (E.setAbs r0 v') w w H [(r0, ⟨v', bd'⟩)] := by
 have hver := hr.ver r0 e0 h0
 have hlt0 : r0 < H.length := (List.getElem?_eq_some_iff.1 h0).1
 have hP : bd'.isP = false := by cases bd' <;> first | rfl | (simp [Bd.count] at hc)
 have v1 : (E.setAbs r0 v').ver r0 = v' := by simp [Env.setAbs]
 have v2 : ∀ r, r ≠ r0 → (E.setAbs r0 v').ver r = E.ver r := fun r h => by simp [Env.setAbs, h]
 have a1 : (E.setAbs r0 v').abs r0 := by simp [Env.setAbs]
 have a2 : ∀ r, r ≠ r0 → ((E.setAbs r0 v').abs r ↔ E.abs r) := fun r h => by simp [Env.setAbs, h]
 have X : Ext E (E.setAbs r0 v') w w := by
  refine ⟨fun r => ?_, fun r e => rfl, fun r e => ?_, fun z c h => h, fun z c hz => rfl, fun r cur T fz hc => ⟨cur, T, fz, hc, Nat.le_refl _⟩, fun _ _ _ _ h => h⟩
  ·by_cases h : r = r0
   ·subst h; omega
   ·rw [v2 r h]; exact Nat.le_refl _
  ·by_cases h : r = r0
   ·subst h; omega
   ·exact a2 r h
 have hget : ∀ (r : Nat) (e : Ent), (updH H [(r0, ⟨v', bd'⟩)])[r]? = some e → r = r0 ∧ e = ⟨v', bd'⟩ ∨ r ≠ r0 ∧ H[r]? = some e := by
  intro r e h
  simp only [updH, setL_eq] at h
  by_cases hrr : r = r0
  ·subst hrr; rw [List.getElem?_set_self hlt0] at h; exact .inl ⟨rfl, (Option.some.inj h).symm⟩
  ·rw [List.getElem?_set_ne (Ne.symm hrr)] at h; exact .inr ⟨hrr, h⟩
 have hliv : ∀ (r : Nat) (e : Ent), (updH H [(r0, ⟨v', bd'⟩)])[r]? = some e → Liv (E.setAbs r0 v') r e → H[r]? = some e ∧ Liv E r e := by
  intro r e h hl
  rcases hget r e h with ⟨rfl, rfl⟩ | ⟨h1, h2⟩
  ·exact absurd a1 hl.2
  ·exact ⟨h2, hl.1, fun q => hl.2 ((a2 r h1).2 q)⟩
 have hblk : ∀ (r : Nat) (e : Ent) (b : Nat), (updH H [(r0, ⟨v', bd'⟩)])[r]? = some e → Blk (E.setAbs r0 v') r e b → H[r]? = some e ∧ Blk E r e b := by
  intro r e b h hb
  rcases hb with ⟨hl, h3⟩ | ⟨h3, h4⟩
  ·obtain ⟨h1, h2⟩ := hliv r e h hl
   exact ⟨h1, .inl ⟨h2, h3⟩⟩
  ·rcases hget r e h with ⟨rfl, rfl⟩ | ⟨h1, h2⟩
   ·exact absurd (hP.symm.trans h3) (by simp)
   ·exact ⟨h2, .inr ⟨h3, h4⟩⟩
 refine ⟨X, ⟨?_, ?_, ?_, ?_, hr.zlt, ?_, ?_, hr.gl.ext X, ?_⟩, rfl, rfl, rfl, Nat.le_refl _, fun _ _ h => .inl h, fun _ cur T fz h => ⟨cur, T, fz, h, Nat.le_refl _⟩, fun _ _ _ => rfl, ?_⟩
 ·intro r e h
  rcases hget r e h with ⟨rfl, rfl⟩ | ⟨h1, h2⟩
  ·exact v1
  ·rw [v2 r h1]; exact hr.ver r e h2
 ·intro r e h hl
  obtain ⟨h1, h2⟩ := hliv r e h hl
  exact (hr.ent r e h1 h2).ext X rfl
 ·intro r e h ha
  rcases hget r e h with ⟨rfl, rfl⟩ | ⟨h1, h2⟩
  ·exact hc
  ·exact hr.abs r e h2 ((a2 r h1).1 ha)
 ·intro r r' e e' b h h' hl hl'
  obtain ⟨h1, h2⟩ := hblk r e b h hl
  obtain ⟨h3, h4⟩ := hblk r' e' b h' hl'
  exact hr.inj r r' e e' b h1 h3 h2 h4
 ·intro r e b h hl z
  obtain ⟨h1, h2⟩ := hblk r e b h hl
  exact hr.zrow r e b h1 h2 z
 ·intro r h
  simp only [updH, setL_eq, List.length_set] at h
  have hne : r ≠ r0 := by omega
  rw [v2 r hne, a2 r hne]
  exact hr.top r h
 ·intro r v ls h
  rcases hget r _ h with ⟨rfl, h1⟩ | ⟨h1, h2⟩
  ·cases h1; cases hP
  ·exact hr.pool r v ls h2
 ·intro r e b h hl
  obtain ⟨h1, h2⟩ := hblk r e b h hl
  exact .inr ⟨r, e, h1, h2, .inl rfl⟩
structure Ap (P : Program) (T Tx ty : TypeId) (El : TypeId) (i : TypeInfo) (z xv : Value) (m : Nat) (news : List Value) (w : World) : Prop where
 newsLen : news.length = m * i.size
 idle : m = 0 → ∀ a, (Builtin.append_ #[T, Tx] ty #[.slice a 0 0, xv]).run P w = .ok (.slice a 0 0) w
 room : ∀ b off sLen sCap, sLen + m ≤ sCap → (∀ j, j < news.length → (w.cell? ⟨b, off + sLen * i.size + j, none⟩).isSome = true) → (∀ j, j < news.length → w.frozen? ⟨b, off + sLen * i.size + j, none⟩ = false) →
  (Builtin.append_ #[T, Tx] ty #[.slice (some ⟨b, off, none⟩) sLen sCap, xv]).run P w = .ok (.slice (some ⟨b, off, none⟩) (sLen + m) sCap) (w.setCells b (off + sLen * i.size) news)
 grow : ∀ (base : Option Addr) sLen sCap (olds : List Value), (Builtin.firstCells i.size sLen (.slice base sLen sCap)).run P w.drew = .ok olds.toArray w.drew → sLen ≤ sCap → sCap < sLen + m → ((sLen + m : Nat) : Int) ≤ 9223372036854775807 →
  Builtin.nextslicecap (sLen + m) sCap * i.bytes ≤ 281474976710656 → m * i.bytes ≤ 281474976710656 →
  (Builtin.append_ #[T, Tx] ty #[.slice base sLen sCap, xv]).run P w = .ok (.slice (some ⟨w.heap.size, 0, none⟩) (sLen + m) (grownCap w (sLen + m) sCap El))
      (w.drew.alloc (.cells ((olds ++ news).toArray ++ Builtin.zeroCells z.cells (grownCap w (sLen + m) sCap El - (sLen + m))) El))
theorem Ap.ofSrc {T Tx ty El : TypeId} {i : TypeInfo} {z xv : Value} {m : Nat} {news : List Value} {w : World} (hT : P.underlying T = some (.slice El)) (hi : P.info? El = some i) (hz : i.zero = some z) (hs : Src P i.size Tx xv m news w) : Ap P T Tx ty El i z xv m news w := by
 refine ⟨hs.newsLen, fun h0 a => ?_, fun b off sLen sCap hroom hc hf => run_append_room_src w T Tx ty El i hT hi b off sLen sCap xv m news hs hroom hc hf, fun base sLen sCap olds hold hle hg h63 hfit _ => run_append_grow_src w T Tx ty El i z hT hi hz base sLen sCap olds hold xv m news hs hg h63 hfit⟩
 subst h0
 have hn : news = [] := List.eq_nil_of_length_eq_zero (by simpa using hs.newsLen)
 subst hn
 rcases hs.kind with ⟨e', hk⟩ | hk <;>
  (cases a with
   | none => simp [Builtin.append_, run_underlying hT, run_underlying hk, Go.sizeOf, typeInfo, hi, hs.len, hs.cells]
   | some a => simp [Builtin.append_, run_underlying hT, run_underlying hk, Go.sizeOf, typeInfo, hi, hs.len, hs.cells, storeCells])
theorem zeroCells_one (u : Value) (n : Nat) : Builtin.zeroCells #[u] n = (List.replicate n u).toArray := by
 apply Array.ext'
 simp only [Builtin.zeroCells, List.size_toArray, List.length_cons, List.length_nil, Nat.zero_add, Nat.mul_one, Nat.mod_one, Array.toList_map, Array.toList_range]
 apply List.ext_getElem?
 intro i
 simp only [List.getElem?_map, List.getElem?_replicate]
 by_cases h : i < n
 ·simp [h, List.getElem?_range h]
 ·simp [h]
theorem Ap.ofZeros {T Tx ty El : TypeId} {i : TypeInfo} {z u : Value} {k kn : IntKind} {m : Nat} {w : World} (hT : P.underlying T = some (.slice El)) (hTx : P.underlying Tx = some (.int kn)) (hi : P.info? El = some i) (hz : i.zero = some z) (hzc : z.cells = #[u]) (hu : u.oneCell' = true) (hsz : i.size = 1)
    (hm : m ≤ 9223372036854775807) (hb : m * i.bytes ≤ 281474976710656) : Ap P T Tx ty El i z (.int k m) m (List.replicate m u) w := by
 have hw : IntKind.i64.wrap (m : Int) = m := by rw [IntKind.wrap_i64]; omega
 have hneg : ¬ ((m : Int) < 0) := by omega
 have h48 : ¬ (281474976710656 < (m : Int) * (i.bytes : Int)) := by rw [← Int.natCast_mul]; omega
 refine ⟨by simp [hsz], fun h0 a => ?_, fun b off sLen sCap hroom hc hf => ?_, fun base sLen sCap olds hold hle hg h63 hfit _ => ?_⟩
 ·subst h0
  have hw0 : IntKind.i64.wrap 0 = 0 := hw
  cases a with
   | none => simp [Builtin.append_, run_underlying hT, run_underlying hTx, Go.sizeOf, typeInfo, hi, asInt, asIntOf, hw0]
   | some a => simp [Builtin.append_, run_underlying hT, run_underlying hTx, Go.sizeOf, typeInfo, hi, asInt, asIntOf, hw0, storeCells]
 ·have hst := run_storeCells_cells (P := P) b (off + sLen * i.size) (List.replicate m u) 0 w (by simpa using hc) (by simpa using hf) (fun v hv => by rw [List.eq_of_mem_replicate hv]; exact hu)
  simp only [Nat.add_zero] at hst
  by_cases h0 : m = 0
  ·subst h0
   have hw0 : IntKind.i64.wrap 0 = 0 := hw
   have hroom' : sLen ≤ sCap := hroom
   simp only [List.replicate_zero] at hst ⊢
   simp [Builtin.append_, run_underlying hT, run_underlying hTx, Go.sizeOf, typeInfo, hi, asInt, asIntOf, hw0, hroom', Addr.add_lit, hst]
  ·have hm1 : ¬ (m * i.size = 0) := by rw [hsz]; omega
   simp [Builtin.append_, run_underlying hT, run_underlying hTx, Go.sizeOf, typeInfo, zeroValue, hi, hz, asInt, asIntOf, hw, hneg, h48, hroom, hm1, hzc, zeroCells_one, Addr.add_lit, hst]
 ·have h0 : m ≠ 0 := by omega
  have hm1 : ¬ (m * i.size = 0) := by rw [hsz]; omega
  have hn : ¬ (sLen + m ≤ sCap) := by omega
  have h63' : ¬ (9223372036854775807 < ((sLen : Int) + (m : Int))) := by omega
  have h48' : ¬ (281474976710656 < Builtin.nextslicecap (sLen + m) sCap * i.bytes) := by omega
  simp [Builtin.append_, run_underlying hT, run_underlying hTx, Go.sizeOf, typeInfo, zeroValue, hi, hz, asInt, asIntOf, hw, hneg, h48, hn, h63', h48', hm1, Question.forced, hold, newRow, grownCap, hzc, zeroCells_one]
  congr 2
  apply Array.ext'
  simp [List.append_assoc, List.replicate_append_replicate]
theorem app_core {T Tx El ty : TypeId} {ei : TI} (hT : P.underlying T = some (.slice El)) (hE : TIok P El ei) {E : Env} {w : World} {H : List Ent} (hr : HR E w H) {r : Nat} {e : Ent} (he : H[r]? = some e) {ver sz n m : Nat} {v xv : Value}
    (hv : rep E w (.own r ver sz 0 n) v) (hver : ver = E.ver r) {news : List Value} {i : TypeInfo} {z : Value} (hi : P.info? El = some i) (hiz : i.zero = some z) (hisz : i.size = ei.sz) (hiby : i.bytes = ei.bytes) (hzc : z.cells.toList = ei.zero) (hs : Ap P T Tx ty El i z xv m news w) {bd' : Bd} (hn : e.bd.count = n) (hsz : e.bd.sz = sz) (hsz0 : ei.sz = sz) (hc : e.bd.cel = true) (hn' : bd'.count = n + m) (hsz' : bd'.sz = sz) (hc' : bd'.cel = true)
    (hat : ∀ i ys, bd'.at i = some ys → (i < n ∧ e.bd.at i = some ys) ∨ (n ≤ i ∧ ∃ us, us.length = sz ∧ reps E w ys us ∧ ∀ j u, us[j]? = some u → news[(i - n) * sz + j]? = some u)) (hfull : ∀ i, i < n → ∃ ys, e.bd.at i = some ys)
    (hbytes : (n + m) * ei.bytes ≤ 140737488355328) (h63 : n + m ≤ maxLen) :
    ∃ cv w' E', (Builtin.append_ #[T, Tx] ty #[v, xv]).run P w = .ok cv w' ∧ rep E' w' (.own r (e.ver + 1) sz 0 (n + m)) cv ∧ Out E E' w w' H [(r, ⟨e.ver + 1, bd'⟩)] := by
 have hl := Bd.live_of hc
 have hnlp := Bd.lpB_of hc'
 rw [rep] at hv
 obtain ⟨a, c, rfl, h1, h2, h3, h4⟩ := hv.2 hver
 have hsz1 : i.size = sz := by omega
 have hnl := hs.newsLen
 rw [hsz1] at hnl
 have hzz : z.cells.size = sz := by have := hE.zsz; rw [← hzc] at this; simp at this; omega
 have h63' : n + m ≤ 9223372036854775807 := by simpa [maxLen] using h63
 have hEver := hr.ver r e he
 -- the old cells
 have hold : ∃ xs : List Value, xs.length = n * sz ∧ (∀ w2 : World, (∀ k : Nat, w2.heap[k]? = w.heap[k]?) → (Builtin.firstCells sz n (.slice a n c)).run P w2 = .ok xs.toArray w2) ∧
     ∀ i' ys, e.bd.at i' = some ys → ∃ us, us.length = sz ∧ reps E w ys us ∧ ∀ j u, us[j]? = some u → xs[i' * sz + j]? = some u := by
  by_cases hc0 : c = 0
  ·have hn0 : n = 0 := by omega
   subst hn0
   refine ⟨[], by simp, fun w2 _ => ?_, fun i' ys hy => ?_⟩
   ·cases a with
    | none => exact run_firstCells_none w2 sz 0 0 c
    | some ad => exact run_firstCells_some w2 sz 0 ad 0 c [] (by simp) (fun j u h => by simp at h)
   ·have := Bd.at_lt hy; omega
  ·obtain ⟨hna, rfl, cur, T', fz, h5, h6⟩ := h4.resolve_left hc0
   obtain ⟨cur2, T2, lo, hi', h7, h8, h9, h10⟩ := (hr.ent r e he ⟨hl, hna⟩).blk hc
   rw [h5] at h7
   cases h7
   rw [hn, hsz] at h9
   refine ⟨cur.toList.take (n * sz), by simp; omega, fun w2 hw2 => ?_, fun i' ys hy => ?_⟩
   ·refine run_firstCells_some w2 sz n ⟨E.ρ r, 0 * sz, none⟩ n c _ (by simp; omega) (fun j u hu => ?_)
    rw [Addr.add_lit, Nat.zero_mul, Nat.zero_add, cell_of_row w2 (E.ρ r) j cur T' (lo, hi') ((hw2 _).trans h5)]
    rw [List.getElem?_take] at hu
    split at hu
    ·simpa using hu
    ·cases hu
   ·obtain ⟨us, h11, h12, h13⟩ := h10 i' ys hy
    refine ⟨us, by omega, h12, fun j u hu => ?_⟩
    have hj : j < sz := by have := (List.getElem?_eq_some_iff.1 hu).1; omega
    have hlt := Bd.at_lt hy
    rw [hn] at hlt
    have : (i' + 1) * sz ≤ n * sz := Nat.mul_le_mul_right _ hlt
    rw [Nat.add_mul, Nat.one_mul] at this
    rw [List.getElem?_take, if_pos (by omega)]
    have := h13 j u hu
    rw [hsz] at this
    simpa using this
 obtain ⟨xs, hxl, hfirst, hxat⟩ := hold
 -- what the new row's cells are
 have hall : ∀ i' ys, bd'.at i' = some ys → ∃ us, us.length = sz ∧ reps E w ys us ∧ ∀ j u, us[j]? = some u → (xs ++ news)[i' * sz + j]? = some u := by
  intro i' ys hy
  rcases hat i' ys hy with ⟨h5, h6⟩ | ⟨h5, us, h6, h7, h8⟩
  ·obtain ⟨us, h7, h8, h9⟩ := hxat i' ys h6
   refine ⟨us, h7, h8, fun j u hu => ?_⟩
   have := h9 j u hu
   rw [List.getElem?_append_left (List.getElem?_eq_some_iff.1 this).1]; exact this
  ·refine ⟨us, h6, h7, fun j u hu => ?_⟩
   have e1 : i' * sz = n * sz + (i' - n) * sz := by rw [← Nat.add_mul]; congr 1; omega
   rw [List.getElem?_append_right (by omega), hxl, show i' * sz + j - n * sz = (i' - n) * sz + j by omega]
   exact h8 j u hu
 have hlen : (xs ++ news).length = (n + m) * sz := by rw [List.length_append, hxl, hnl, Nat.add_mul]
 by_cases hroom : n + m ≤ c
 ·by_cases hc0 : c = 0
  ·-- nothing is appended to nothing
   have hn0 : n = 0 := by omega
   have hm0 : m = 0 := by omega
   subst hn0; subst hm0
   subst hc0
   refine ⟨.slice a 0 0, w, E.setAbs r (e.ver + 1), hs.idle rfl a, ?_, Out.absent hr he (by omega) (by omega)⟩
   ·rw [rep]
    exact ⟨by simp [Env.setAbs], fun _ => ⟨a, 0, rfl, by omega, Nat.zero_le _, fun _ => rfl, .inl rfl⟩⟩
  ·obtain ⟨hna, rfl, cur, T', fz, h5, h6⟩ := h4.resolve_left hc0
   clear h4 hv
   obtain ⟨cur2, T2, lo, hi', h7, h8, h9, h10⟩ := (hr.ent r e he ⟨hl, hna⟩).blk hc
   rw [h5] at h7
   cases h7
   rw [Nat.zero_add] at h6
   have hfit : n * sz + news.length ≤ cur.size := by
    rw [hnl, ← Nat.add_mul]; exact Nat.le_trans (Nat.mul_le_mul_right _ hroom) h6
   have hrun := hs.room (E.ρ r) 0 n c hroom
    (fun j hj => by rw [hsz1, cell_of_row w _ _ cur T' (lo, hi') h5]; simp; omega)
    (fun j hj => by rw [hsz1]; simp [World.frozen?, h5]; intro h; rcases h8 with h' | h' <;> omega)
   rw [hsz1, Nat.zero_add] at hrun
   rw [Nat.zero_mul]
   obtain ⟨hch, hss⟩ := setCells_ch (E.ρ r) news (n * sz) w
   have hrow := heap_setCells_row w (E.ρ r) T' (lo, hi') news (n * sz) cur h5 hfit
   refine ⟨_, _, E.set r (E.ρ r) (e.ver + 1), hrun, ?_, Out.one hr he (Bd.isP_of_lpB hnlp) (.inr (by omega)) (.inl ⟨rfl, hl, hna⟩) hch.os hch.tape hch.output (by omega) (fun k hk hne => hch.block k hk hne) ?_ ?_⟩
   ·rw [rep, Env.set_ver, Env.set_ρ]
    refine ⟨Nat.le_refl _, fun _ => ⟨_, c, rfl, hroom, h2, (fun h => by cases h), .inr ⟨Env.set_abs _ _ _ _, by rw [Nat.zero_mul], _, _, _, hrow, ?_⟩⟩⟩
    rw [Nat.zero_add]
    simp only [List.size_toArray, List.length_append, List.length_take, List.length_drop, Array.length_toList]
    omega
   ·intro cur3 T3 fz3 h11
    rw [h5] at h11
    cases h11
    exact ⟨_, _, _, hrow, by simp; omega⟩
   ·intro X
    refine ⟨fun _ => ⟨_, _, _, _, hrow, ?_, ?_, fun i' ys hy => ?_⟩, fun _ _ _ e => absurd e (Bd.not_lp hnlp)⟩
    ·rcases h8 with h | h
     ·exact .inl h
     ·refine .inr ?_
      simp only [List.size_toArray, List.length_append, List.length_take, List.length_drop, Array.length_toList]
      omega
    ·rw [hn', hsz', Nat.add_mul, ← hnl]
     simp only [List.size_toArray, List.length_append, List.length_take, List.length_drop, Array.length_toList]
     omega
    ·obtain ⟨us, h12, h13, h14⟩ := hall i' ys hy
     rw [hsz']
     refine ⟨us, h12, reps_ext X _ _ h13, fun j u hu => ?_⟩
     have h15 := h14 j u hu
     have hlt := (List.getElem?_eq_some_iff.1 h15).1
     have hlen2 : (cur.toList.take (n * sz) ++ news).length = (xs ++ news).length := by simp [hxl]; omega
     -- the first cells are the old ones
     have hx2 : cur.toList.take (n * sz) = xs := by
      have h16 := hfirst w (fun _ => rfl)
      rw [run_firstCells_some w sz n ⟨E.ρ r, 0 * sz, none⟩ n c (cur.toList.take (n * sz)) (by simp; omega) (fun j u hu => by
       rw [Addr.add_lit, Nat.zero_mul, Nat.zero_add, cell_of_row w (E.ρ r) j cur T' (lo, hi') h5]
       rw [List.getElem?_take] at hu
       split at hu
       ·simpa using hu
       ·cases hu)] at h16
      have h17 := (Result.ok.inj h16).1
      exact congrArg Array.toList h17 |> fun h => by simpa using h
     rw [List.getElem?_toArray, hx2, List.getElem?_append_left hlt]
     exact h15
 ·clear h4 hv
  have hfc := hfirst w.drew (fun _ => rfl)
  have hrun := hs.grow a n c xs (by rw [hsz1]; exact hfc) h1 (by omega) (by omega) (growslice_fits (by omega) (by rw [hiby]; exact hbytes)) (by rw [hiby]; have := Nat.mul_le_mul_right ei.bytes (Nat.le_add_left m n); omega)
  have hge := grownCap_ge w (n + m) c El
  have hcm := grownCap_le_maxLen w (n + m) c El h63
  refine ⟨_, _, E.set r w.heap.size (e.ver + 1), hrun, ?_, Out.one hr he (Bd.isP_of_lpB hnlp) (.inr (by omega)) (.inr (Nat.le_refl _)) rfl rfl rfl (by simp) (fun k hk _ => Below.heap_alloc w.drew _ k hk) (fun cur3 T3 fz3 h11 => ?_) (fun X => ⟨fun _ => ⟨_, _, 0, 0, heap_alloc_new w.drew _, .inl rfl, ?_, fun i' ys hy => ?_⟩, fun _ _ _ e => absurd e (Bd.not_lp hnlp)⟩)⟩
  ·rw [rep, Env.set_ver, Env.set_ρ]
   refine ⟨Nat.le_refl _, fun _ => ⟨_, _, rfl, hge, hcm, (fun h => by cases h), .inr ⟨Env.set_abs _ _ _ _, by rw [Nat.zero_mul], _, _, _, heap_alloc_new w.drew _, ?_⟩⟩⟩
   rw [Array.size_append, size_zeroCells, List.size_toArray, hlen, hzz, ← Nat.add_mul]
   exact Nat.mul_le_mul_right _ (by omega)
  ·have := (Array.getElem?_eq_some_iff.1 h11).1; omega
  ·rw [hn', hsz', Array.size_append, List.size_toArray, hlen]; omega
  ·obtain ⟨us, h12, h13, h14⟩ := hall i' ys hy
   rw [hsz']
   refine ⟨us, h12, reps_ext X _ _ h13, fun j u hu => ?_⟩
   have h15 := h14 j u hu
   have hlt := (List.getElem?_eq_some_iff.1 h15).1
   rw [Array.getElem?_append_left (by simpa using hlt)]
   simpa using h15
/-! what is appended -/
theorem src_cells {E : Env} {w : World} {sz b : Nat} : ∀ (els : List (List AV)) (o : Nat), (∀ i ys, els[i]? = some ys → ∃ cs : List Value, cs.length = sz ∧ reps E w ys cs ∧ (∀ u ∈ cs, u.oneCell' = true) ∧ ∀ j u, cs[j]? = some u → w.cell? ⟨b, o + i * sz + j, none⟩ = some u) →
    ∃ news : List Value, news.length = els.length * sz ∧ (∀ j u, news[j]? = some u → w.cell? ⟨b, o + j, none⟩ = some u) ∧ (∀ u ∈ news, u.oneCell' = true) ∧
     ∀ i ys, els[i]? = some ys → ∃ cs : List Value, cs.length = sz ∧ reps E w ys cs ∧ ∀ j u, cs[j]? = some u → news[i * sz + j]? = some u
 | [], o, _ => ⟨[], by simp, by simp, by simp, by simp⟩
 | y :: els, o, h => by
  obtain ⟨cs, h1, h2, h3, h4⟩ := h 0 y rfl
  obtain ⟨news, g1, g2, g3, g4⟩ := src_cells els (o + sz) (fun i ys hy => by
   obtain ⟨cs, k1, k2, k3, k4⟩ := h (i + 1) ys (by simpa using hy)
   refine ⟨cs, k1, k2, k3, fun j u hu => ?_⟩
   have := k4 j u hu
   rw [show o + (i + 1) * sz + j = o + sz + i * sz + j by rw [Nat.add_mul, Nat.one_mul]; omega] at this
   exact this)
  refine ⟨cs ++ news, ?_, ?_, ?_, ?_⟩
  ·simp only [List.length_append, List.length_cons, h1, g1, Nat.add_mul, Nat.one_mul]; omega
  ·intro j u hu
   rw [List.getElem?_append] at hu
   split at hu
   ·have := h4 j u hu; simpa using this
   ·have := g2 _ u hu
    rw [h1] at this
    rw [show o + j = o + sz + (j - sz) by omega]; exact this
  ·intro u hu
   rcases List.mem_append.1 hu with h | h
   ·exact h3 u h
   ·exact g3 u h
  ·intro i ys hy
   cases i with
   | zero =>
    simp only [List.getElem?_cons_zero, Option.some.injEq] at hy
    subst hy
    exact ⟨cs, h1, h2, fun j u hu => by rw [Nat.zero_mul, Nat.zero_add, List.getElem?_append_left (List.getElem?_eq_some_iff.1 hu).1]; exact hu⟩
   | succ i =>
    obtain ⟨cs', k1, k2, k3⟩ := g4 i ys (by simpa using hy)
    refine ⟨cs', k1, k2, fun j u hu => ?_⟩
    rw [Nat.add_mul, Nat.one_mul, List.getElem?_append_right (by omega), h1, show i * sz + sz + j - sz = i * sz + j by omega]
    exact k3 j u hu
def bcells (l : List UInt8) : List (List AV) := l.map fun b => [.val (bv b)]
def elsK (tb : TypeId → Option TI) (hg : Nat → Option Ent) (Tx : TypeId) (x : AV) (K : Prop → Nat → List (List AV) → Prop) : Prop := match tb Tx with
 | none => False
 | some xi => match xi.u with
  | .slice _ => match x with
   | .bs z m => K True 1 (bcells m)
   | .sl z sz f d l => K (∀ x ∈ l, onesA hg (f x)) sz (l.map f)
   | .val (.slice none 0 0) => K True 0 []
   | .own r ver sz off n => match hg r with
    | none => False
    | some e => match e.bd with
     | .bytes l => K (ver = e.ver ∧ sz = 1 ∧ off + n ≤ l.length) 1 (bcells ((l.drop off).take n))
     | .row sz' f d l => K (ver = e.ver ∧ sz = sz' ∧ off + n ≤ l.length ∧ ∀ x ∈ (l.drop off).take n, onesA hg (f x)) sz' (((l.drop off).take n).map f)
     | .obj cells => K (ver = e.ver ∧ sz = 1 ∧ off + n ≤ cells.length ∧ onesA hg (takeL (dropL cells off) n)) 1 ((takeL (dropL cells off) n).map fun x => [x])
     | _ => False
   | .pl r ver i off n => match hg r with
    | none => False
    | some e => match e.bd with
     | .pool ls => K (ver = e.ver ∧ i < ls.length ∧ off + n ≤ (ls.getD i []).length) 1 (bcells (((ls.getD i []).drop off).take n))
     | _ => False
   | _ => False
  | .string => match x with
   | .val (.string s) => K True 1 (bcells s.data.toList)
   | _ => False
  | _ => False
theorem bcells_one (hg : Nat → Option Ent) (l : List UInt8) : ∀ ys ∈ bcells l, onesA hg ys := by
 intro ys hy
 obtain ⟨b, _, rfl⟩ := List.mem_map.1 hy
 exact ⟨rfl, trivial⟩
theorem els_sound {tb : TypeId → Option TI} (htb : TbOk P tb) {Tx : TypeId} {x : AV} {K : Prop → Nat → List (List AV) → Prop} (h : elsK tb hg Tx x K) :
    ∃ Ψ sz els, K Ψ sz els ∧ (Ψ → ∀ (E : Env) (H : List Ent) (w : World) (v : Value), HR E w H → (∀ (r : Nat) (e : Ent), hg r = some e → H[r]? = some e) → rep E w x v →
     ∀ sz', (els = [] ∨ sz' = sz) → ∃ news, Src P sz' Tx v els.length news w ∧ ∀ i ys, els[i]? = some ys → ∃ us : List Value, us.length = sz' ∧ reps E w ys us ∧ ∀ j u, us[j]? = some u → news[i * sz' + j]? = some u) := by
 unfold elsK at h
 split at h
 ·exact h.elim
 rename_i xi hxi
 have hT := (htb Tx xi hxi).u
 -- from cells that are there
 have fin : ∀ {E : Env} {H : List Ent} {w : World} {E0 : TypeId} {a : Option Addr} {c : Nat} {els : List (List AV)} {sz' : Nat}, P.underlying Tx = some (.slice E0) → els.length ≤ c → (a = none → c = 0) →
     (els = [] ∨ ∃ b o, a = some ⟨b, o, none⟩ ∧ ∀ i ys, els[i]? = some ys → ∃ cs : List Value, cs.length = sz' ∧ reps E w ys cs ∧ (∀ u ∈ cs, u.oneCell' = true) ∧ ∀ j u, cs[j]? = some u → w.cell? ⟨b, o + i * sz' + j, none⟩ = some u) →
     ∃ news, Src P sz' Tx (.slice a els.length c) els.length news w ∧ ∀ i ys, els[i]? = some ys → ∃ us : List Value, us.length = sz' ∧ reps E w ys us ∧ ∀ j u, us[j]? = some u → news[i * sz' + j]? = some u := by
  intro E H w E0 a c els sz' hTx hle hnone hcase
  rcases hcase with rfl | ⟨b, o, rfl, hc⟩
  ·refine ⟨[], ?_, by simp⟩
   cases a with
   | none => exact Src.ofNil w hTx c
   | some ad => exact Src.ofSlice w hTx ad 0 c [] (by simp) (by simp) (by simp)
  ·obtain ⟨news, g1, g2, g3, g4⟩ := src_cells els o hc
   exact ⟨news, Src.ofSlice w hTx ⟨b, o, none⟩ els.length c news g1 (fun j u hu => by rw [Addr.add_lit]; exact g2 j u hu) g3, g4⟩
 split at h
 ·rename_i E0 hu
  rw [hu] at hT
  have hTx : P.underlying Tx = some (.slice E0) := hT
  split at h
  ·rename_i z m
   refine ⟨_, _, _, h, fun p E H w v hr hh hv sz' hsz => ?_⟩
   rw [rep] at hv
   obtain ⟨a, n, c, rfl, rfl, h1, h2, h3, h4⟩ := hv
   have e : (bcells m).length = m.length := by simp [bcells]
   have := fin (E := E) (H := H) (w := w) (a := a) (c := c) (els := bcells m) (sz' := sz') hTx (by omega) h3 (by
    by_cases hm : m = []
    ·left; simp [hm, bcells]
    ·right
     have hs1 : sz' = 1 := hsz.resolve_left (by simpa [bcells] using hm)
     subst hs1
     obtain ⟨x0, hx0⟩ : ∃ x0, m[0]? = some x0 := by cases m with | nil => exact absurd rfl hm | cons a l => exact ⟨a, rfl⟩
     obtain ⟨b, o, rfl, _, _⟩ := h4 0 x0 hx0
     refine ⟨b, o, rfl, fun i ys hy => ?_⟩
     simp only [bcells, List.getElem?_map, Option.map_eq_some_iff] at hy
     obtain ⟨x, hx, rfl⟩ := hy
     obtain ⟨b', o', hb, _, hcell⟩ := h4 i x hx
     cases hb
     refine ⟨[bv x], rfl, by simp only [reps, rep]; exact ⟨_, _, rfl, rfl, rfl⟩, by simp [bv, Value.oneCell'], fun j u hu => ?_⟩
     cases j with
     | zero => simp at hu; subst hu; rw [Nat.mul_one, Nat.add_zero]; exact hcell
     | succ j => simp at hu)
   rw [e] at this
   rw [e]; exact this
  ·rename_i z sz α f d l
   refine ⟨_, _, _, h, fun p E H w v hr hh hv sz' hsz => ?_⟩
   rw [rep] at hv
   obtain ⟨a, n, c, rfl, rfl, h1, h2, h3, h4⟩ := hv
   have e : (l.map f).length = l.length := by simp
   have := fin (E := E) (H := H) (w := w) (a := a) (c := c) (els := l.map f) (sz' := sz') hTx (by omega) h3 (by
    by_cases hm : l = []
    ·left; simp [hm]
    ·right
     have hs1 : sz' = sz := hsz.resolve_left (by simpa using hm)
     subst hs1
     obtain ⟨x0, hx0⟩ : ∃ x0, l[0]? = some x0 := by cases l with | nil => exact absurd rfl hm | cons a l => exact ⟨a, rfl⟩
     obtain ⟨b, o, cs0, rfl, _⟩ := h4 0 x0 hx0
     refine ⟨b, o, rfl, fun i ys hy => ?_⟩
     simp only [List.getElem?_map, Option.map_eq_some_iff] at hy
     obtain ⟨x, hx, rfl⟩ := hy
     obtain ⟨b', o', cs, hb, _, hl, hcs, hcell⟩ := h4 i x hx
     cases hb
     exact ⟨cs, hl, hcs, onesA_sound (p x (List.mem_of_getElem? hx)) hr hh hcs, hcell⟩)
   rw [e] at this
   rw [e]; exact this
  ·refine ⟨_, _, _, h, fun p E H w v hr hh hv sz' hsz => ?_⟩
   rw [rep_val hv]
   exact ⟨[], Src.ofNil w hTx 0, by simp⟩
  ·rename_i r ver sz off n
   split at h
   ·exact h.elim
   rename_i e he
   -- the row's cells
   have row : ∀ {E : Env} {H : List Ent} {w : World} {v : Value} {sz' : Nat} {els : List (List AV)}, HR E w H → (∀ (r : Nat) (e : Ent), hg r = some e → H[r]? = some e) → rep E w (.own r ver sz off n) v → ver = e.ver → sz = e.bd.sz → sz' = sz ∨ els = [] → els.length = n →
       (∀ i ys, els[i]? = some ys → e.bd.at (off + i) = some ys ∧ onesA hg ys) →
       ∃ news, Src P sz' Tx v els.length news w ∧ ∀ i ys, els[i]? = some ys → ∃ us : List Value, us.length = sz' ∧ reps E w ys us ∧ ∀ j u, us[j]? = some u → news[i * sz' + j]? = some u := by
    intro E H w v sz' els hr hh hv hver hsz hsz2 hlen hels
    rw [rep] at hv
    have hH := hh r e he
    obtain ⟨a, c, rfl, h1, h2, h3, h4⟩ := hv.2 (hver.trans (hr.ver r e hH).symm)
    have := fin (E := E) (H := H) (w := w) (a := a) (c := c) (els := els) (sz' := sz') hTx (by omega) h3 (by
     by_cases hm : els = []
     ·exact .inl hm
     ·right
      have hs1 : sz' = sz := hsz2.resolve_right hm
      have hn : els.length ≠ 0 := fun e => hm (List.eq_nil_of_length_eq_zero e)
      obtain ⟨hna, rfl, _⟩ := h4.resolve_left (by omega)
      refine ⟨_, _, rfl, fun i ys hy => ?_⟩
      obtain ⟨h5, h6⟩ := hels i ys hy
      obtain ⟨cs, h7, h8, h9⟩ := hr.cells hH h5
      refine ⟨cs, by omega, h8, onesA_sound h6 hr hh h8, fun j u hu => ?_⟩
      have := h9 j u hu
      rw [← hsz, Nat.add_mul] at this
      rw [hs1]
      exact this)
    rw [hlen] at this ⊢; exact this
   split at h
   ·rename_i l hb
    refine ⟨_, _, _, h, fun p E H w v hr hh hv sz' hsz => ?_⟩
    obtain ⟨p1, p2, p3⟩ := p
    refine row hr hh hv p1 (by rw [hb, p2]; rfl) (hsz.symm.imp (fun h => h.trans p2.symm) id) (by simp [bcells]; omega) (fun i ys hy => ⟨?_, bcells_one hg _ ys (List.mem_of_getElem? hy)⟩)
    rw [hb]
    simp only [bcells, List.getElem?_map, Option.map_eq_some_iff, List.getElem?_take, List.getElem?_drop] at hy
    obtain ⟨x, hx, rfl⟩ := hy
    split at hx
    ·simp [Bd.at, hx]
    ·cases hx
   ·rename_i sz2 α f d l hb
    refine ⟨_, _, _, h, fun p E H w v hr hh hv sz' hsz => ?_⟩
    obtain ⟨p1, p2, p3, p4⟩ := p
    refine row hr hh hv p1 (by rw [hb, p2]; rfl) (hsz.symm.imp (fun h => h.trans p2.symm) id) (by simp; omega) (fun i ys hy => ?_)
    rw [hb]
    simp only [List.getElem?_map, Option.map_eq_some_iff] at hy
    obtain ⟨x, hx, rfl⟩ := hy
    refine ⟨?_, p4 x (List.mem_of_getElem? hx)⟩
    simp only [List.getElem?_take, List.getElem?_drop] at hx
    split at hx
    ·simp [Bd.at, hx]
    ·cases hx
   ·rename_i cells hb
    refine ⟨_, _, _, h, fun p E H w v hr hh hv sz' hsz => ?_⟩
    obtain ⟨p1, p2, p3, p4⟩ := p
    rw [rep] at hv
    have hH := hh r e he
    obtain ⟨a, c, rfl, h1, h2, h3, h4⟩ := hv.2 (p1.trans (hr.ver r e hH).symm)
    obtain ⟨cs, c1, c2, c3⟩ := hr.cells hH (i := 0) (ys := cells) (by rw [hb]; rfl)
    rw [Nat.zero_mul] at c3
    have hR : reps E w (takeL (dropL cells off) n) ((cs.drop off).take n) := by
     rw [takeL_eq, dropL_eq]; exact reps_take n (reps_drop off c2)
    have hlen : ((takeL (dropL cells off) n).map fun x => [x]).length = n := by rw [takeL_eq, dropL_eq]; simp; omega
    have := fin (E := E) (H := H) (w := w) (a := a) (c := c) (els := (takeL (dropL cells off) n).map fun x => [x]) (sz' := sz') hTx (by omega) h3 (by
     by_cases hm : (takeL (dropL cells off) n).map (fun x => [x]) = []
     ·exact .inl hm
     ·right
      have hs1 : sz' = 1 := hsz.resolve_left hm
      subst hs1
      have hn : n ≠ 0 := fun q => hm (List.eq_nil_of_length_eq_zero (by rw [hlen, q]))
      obtain ⟨hna, rfl, _⟩ := h4.resolve_left (by omega)
      refine ⟨_, _, rfl, fun i ys hy => ?_⟩
      rw [List.getElem?_map, Option.map_eq_some_iff] at hy
      obtain ⟨x, hx, rfl⟩ := hy
      obtain ⟨u, hu, hru⟩ := (reps_get hR).2 i x hx
      have hone := onesA_sound p4 hr hh hR u (List.mem_of_getElem? hu)
      refine ⟨[u], rfl, by simp only [reps]; exact ⟨u, [], rfl, hru, rfl⟩, by simpa using hone, fun j u' hu' => ?_⟩
      cases j with
      | succ j => simp at hu'
      | zero =>
       simp only [List.getElem?_cons_zero, Option.some.injEq] at hu'
       subst hu'
       rw [List.getElem?_take] at hu
       split at hu
       ·rw [List.getElem?_drop] at hu
        have := c3 (off + i) u hu
        rw [Nat.zero_add] at this
        rw [p2, Nat.mul_one, Nat.mul_one, Nat.add_zero]
        exact this
       ·cases hu)
    rw [hlen] at this ⊢; exact this
   ·exact h.elim
  ·rename_i r ver i off n
   split at h
   ·exact h.elim
   rename_i e he
   split at h
   rotate_left
   ·exact h.elim
   rename_i ls hb
   refine ⟨_, _, _, h, fun p E H w v hr hh hv sz' hsz => ?_⟩
   obtain ⟨p1, p2, p3⟩ := p
   have hH : H[r]? = some ⟨e.ver, .pool ls⟩ := by rw [hh r e he, ← hb]
   obtain ⟨a, c, rfl, h1, h2, h3, h4⟩ := hr.plAt hH (l := ls.getD i []) (by simp [List.getD, p2]) p3 p1 hv
   generalize hm : ((ls.getD i []).drop off).take n = m at h4 hsz ⊢
   have hn : m.length = n := by rw [← hm, List.length_take, List.length_drop]; omega
   have e : (bcells m).length = n := by simp [bcells, hn]
   have := fin (E := E) (H := H) (w := w) (a := a) (c := c) (els := bcells m) (sz' := sz') hTx (by omega) h3 (by
    by_cases hm : m = []
    ·left; simp [hm, bcells]
    ·right
     have hs1 : sz' = 1 := hsz.resolve_left (by simpa [bcells] using hm)
     subst hs1
     obtain ⟨x0, hx0⟩ : ∃ x0, m[0]? = some x0 := by cases m with | nil => exact absurd rfl hm | cons a l => exact ⟨a, rfl⟩
     obtain ⟨b, _, rfl, _⟩ := h4 0 x0 hx0
     refine ⟨b, off, rfl, fun i ys hy => ?_⟩
     simp only [bcells, List.getElem?_map, Option.map_eq_some_iff] at hy
     obtain ⟨x, hx, rfl⟩ := hy
     obtain ⟨b', _, hb, hcell⟩ := h4 i x hx
     cases hb
     refine ⟨[bv x], rfl, by simp only [reps, rep]; exact ⟨_, _, rfl, rfl, rfl⟩, by simp [bv, Value.oneCell'], fun j u hu => ?_⟩
     cases j with
     | zero => simp at hu; subst hu; rw [Nat.mul_one, Nat.add_zero]; exact hcell
     | succ j => simp at hu)
   rw [e] at this
   rw [e]; exact this
  ·exact h.elim
 ·rename_i hu
  rw [hu] at hT
  have hTx : P.underlying Tx = some .string := hT
  split at h
  rotate_left
  ·exact h.elim
  rename_i s
  refine ⟨_, _, _, h, fun p E H w v hr hh hv sz' hsz => ?_⟩
  rw [rep_val hv]
  have e : (bcells s.data.toList).length = s.size := by simp [bcells]
  by_cases hm : s.data.toList = []
  ·have e0 : s.size = 0 := by rw [← e, hm]; rfl
   refine ⟨[], ?_, by simp [hm, bcells]⟩
   have e1 : (bcells s.data.toList).length = 0 := by rw [e, e0]
   rw [e1]
   have hs0 : s = ByteArray.empty := by
    cases s with
    | mk a => simp at hm; subst hm; rfl
   have h9 := Src.ofString w hTx s
   have hbc : byteCells s = [] := by unfold byteCells; rw [hm]; rfl
   rw [hbc, e0] at h9
   exact ⟨h9.kind, h9.len, by simp [Builtin.firstCells, hs0], by simp [Builtin.firstCells, hs0], by simp, by simp⟩
  ·have hs1 : sz' = 1 := hsz.resolve_left (by simpa [bcells] using hm)
   subst hs1
   refine ⟨byteCells s, by rw [e]; exact Src.ofString w hTx s, fun i ys hy => ?_⟩
   simp only [bcells, List.getElem?_map, Option.map_eq_some_iff] at hy
   obtain ⟨x, hx, rfl⟩ := hy
   refine ⟨[bv x], rfl, by simp only [reps, rep]; exact ⟨_, _, rfl, rfl, rfl⟩, fun j u hu => ?_⟩
   cases j with
   | zero => simp at hu; subst hu; simp only [byteCells, Nat.mul_one, Nat.add_zero, List.getElem?_map, hx]; rfl
   | succ j => simp at hu
 ·exact h.elim
end
end Go.Proofs.YtmjpbmcbcppkfaaGreatDoor
