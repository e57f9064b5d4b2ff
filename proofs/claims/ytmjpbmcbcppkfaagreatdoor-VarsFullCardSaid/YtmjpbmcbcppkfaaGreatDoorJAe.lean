/- Abstract values: ranges over functions. Conditions: the premises of each law. -/
import Derived.Test.YtmjpbmcbcppkfaaGreatDoorJAc
import Derived.RangeFuncRecord
namespace Go.Proofs.YtmjpbmcbcppkfaaGreatDoor
set_option linter.unusedVariables false
set_option linter.unusedSimpArgs false
open Go.RowKit
section
variable {P : Program}
def usOf : List Ent → Nat → List (Nat × Ent)
 | [], _ => []
 | e :: es, n => (n, e) :: usOf es (n + 1)
theorem updH_usOf : ∀ (C A B : List Ent), B.length = C.length → updH (A ++ B) (usOf C A.length) = A ++ C
 | [], A, [], _ => by simp [usOf, updH]
 | c :: C, A, b :: B, h => by
  simp only [usOf, updH, setL_eq]
  have e : (A ++ b :: B).set A.length c = (A ++ [c]) ++ B := by simp
  have e2 : A.length + 1 = (A ++ [c]).length := by simp
  rw [e, e2, updH_usOf C (A ++ [c]) B (by simpa using h)]
  simp
theorem updH_all {H H2 : List Ent} (h : H2.length = H.length) : updH H (usOf H2 0) = H2 := by simpa using updH_usOf H2 [] H h.symm
theorem usOf_mem : ∀ (C : List Ent) (n r : Nat), n ≤ r → r < n + C.length → r ∈ (usOf C n).map (·.1)
 | [], n, r, h1, h2 => by simp at h2; omega
 | c :: C, n, r, h1, h2 => by
  simp only [usOf, List.map_cons, List.mem_cons]
  by_cases q : r = n
  ·exact .inl q
  ·exact .inr (usOf_mem C (n + 1) r (by omega) (by simp at h2; omega))
theorem cells_of_cell {w : World} {b o : Nat} {v : Value} (h : w.cell? ⟨b, o, none⟩ = some v) : ∃ cur T fz, w.heap[b]? = some (.cells cur T fz) := by
 unfold World.cell? at h
 simp only at h
 split at h
 ·rename_i cur T fz hb; exact ⟨cur, T, fz, hb⟩
 ·cases h
/-! a block that holds no cells becomes another one -/
structure Poke (E : Env) (w : World) (H : List Ent) (l : Nat) : Prop where
 cell : ∀ cur T fz, w.heap[l]? ≠ some (.cells cur T fz)
 zone : ∀ z, ¬ E.zone z l
 row : ∀ (r : Nat) (e : Ent), H[r]? = some e → ¬ Blk E r e l
theorem Poke.ext {E : Env} {w : World} {H : List Ent} {l : Nat} (h : Poke E w H l) (o : Obj) : Ext E E w (w.putObj l o) :=
 ⟨fun _ => Nat.le_refl _, fun _ _ => rfl, fun _ _ => Iff.rfl, fun _ _ h => h, fun z b hz => World.putObj_heap_other (fun q => h.zone z (q ▸ hz)), fun r cur T fz hc => ⟨cur, T, fz, by rw [World.putObj_heap_other (fun q => h.cell cur T fz (by rw [← q]; exact hc))]; exact hc, Nat.le_refl _⟩, fun _ _ _ _ h => h⟩
theorem Poke.hr {E : Env} {w : World} {H : List Ent} {l : Nat} (h : Poke E w H l) (o : Obj) (hr : HR E w H) : HR E (w.putObj l o) H :=
 ⟨hr.ver, fun r e hre hl => (hr.ent r e hre hl).ext (h.ext o) (World.putObj_heap_other (fun q => h.row r e hre (q ▸ Blk.of hl))), hr.abs, hr.inj, fun z b hz => by rw [World.putObj_size]; exact hr.zlt z b hz, hr.zrow, hr.top, hr.gl.ext (h.ext o), fun r v ls hr' => (hr.pool r v ls hr').cong fun i b hb => World.putObj_heap_other (fun q => h.row r _ hr' (.inr ⟨rfl, i, q ▸ hb⟩))⟩
theorem HR.kill {E : Env} {w : World} {H : List Ent} (hr : HR E w H) {r0 : Nat} {e0 : Ent} (h0 : H[r0]? = some e0) : HR E w (setL H r0 ⟨e0.ver, .dead⟩) := by
 have hget : ∀ (r : Nat) (e : Ent), (setL H r0 ⟨e0.ver, .dead⟩)[r]? = some e → r = r0 ∧ e = ⟨e0.ver, .dead⟩ ∨ r ≠ r0 ∧ H[r]? = some e := by
  intro r e h
  rw [setL_eq, List.getElem?_set] at h
  by_cases q : r0 = r
  ·subst q
   rw [if_pos rfl, if_pos (List.getElem?_eq_some_iff.1 h0).1] at h
   exact .inl ⟨rfl, (Option.some.inj h).symm⟩
  ·rw [if_neg q] at h
   exact .inr ⟨fun h => q h.symm, h⟩
 have hliv : ∀ (r : Nat) (e : Ent), (setL H r0 ⟨e0.ver, .dead⟩)[r]? = some e → Liv E r e → r ≠ r0 ∧ H[r]? = some e := by
  intro r e h hl
  rcases hget r e h with ⟨rfl, rfl⟩ | h
  ·cases hl.1
  ·exact h
 have hblk : ∀ (r : Nat) (e : Ent) (b : Nat), (setL H r0 ⟨e0.ver, .dead⟩)[r]? = some e → Blk E r e b → r ≠ r0 ∧ H[r]? = some e := by
  intro r e b h hl
  rcases hget r e h with ⟨rfl, rfl⟩ | h
  ·exact absurd hl Blk.dead
  ·exact h
 refine ⟨fun r e h => ?_, fun r e h hl => hr.ent r e (hliv r e h hl).2 hl, fun r e h ha => ?_, fun r r' e e' b h h' hl hl' => hr.inj r r' e e' b (hblk r e b h hl).2 (hblk r' e' b h' hl').2 hl hl', hr.zlt, fun r e b h hl => hr.zrow r e b (hblk r e b h hl).2 hl, fun r h => hr.top r (by rwa [setL_eq, List.length_set] at h), hr.gl, fun r v ls h => ?_⟩
 ·rcases hget r e h with ⟨rfl, rfl⟩ | ⟨_, h⟩
  ·exact hr.ver r e0 h0
  ·exact hr.ver r e h
 ·rcases hget r e h with ⟨rfl, rfl⟩ | ⟨_, h⟩
  ·rfl
  ·exact hr.abs r e h ha
 ·rcases hget r _ h with ⟨_, h1⟩ | ⟨_, h⟩
  ·cases h1
  ·exact hr.pool r v ls h
theorem HR.raise {E : Env} {w : World} {H : List Ent} (hr : HR E w H) {r0 v : Nat} (h0 : H[r0]? = some ⟨v, .dead⟩) {bd' : Bd} (hP : bd'.isP = false) (ent : EntRep E w (E.ρ r0) bd') (fresh : ∀ (r : Nat) (e : Ent), H[r]? = some e → ¬ Blk E r e (E.ρ r0)) (hz : ∀ z, ¬ E.zone z (E.ρ r0)) (hab : ¬ E.abs r0) : HR E w (setL H r0 ⟨v, bd'⟩) := by
 have hget : ∀ (r : Nat) (e : Ent), (setL H r0 ⟨v, bd'⟩)[r]? = some e → r = r0 ∧ e = ⟨v, bd'⟩ ∨ r ≠ r0 ∧ H[r]? = some e := by
  intro r e h
  rw [setL_eq, List.getElem?_set] at h
  by_cases q : r0 = r
  ·subst q
   rw [if_pos rfl, if_pos (List.getElem?_eq_some_iff.1 h0).1] at h
   exact .inl ⟨rfl, (Option.some.inj h).symm⟩
  ·rw [if_neg q] at h
   exact .inr ⟨fun h => q h.symm, h⟩
 have own : ∀ {b : Nat}, Blk E r0 ⟨v, bd'⟩ b → E.ρ r0 = b := by
  rintro b (⟨_, h⟩ | ⟨h, _⟩)
  ·exact h
  ·rw [hP] at h; cases h
 refine ⟨fun r e h => ?_, fun r e h hl => ?_, fun r e h ha => ?_, fun r r' e e' b h h' hl hl' => ?_, hr.zlt, fun r e b h hl => ?_, fun r h => hr.top r (by rwa [setL_eq, List.length_set] at h), hr.gl, fun r v ls h => ?_⟩
 ·rcases hget r e h with ⟨rfl, rfl⟩ | ⟨_, h⟩
  ·exact (hr.ver r _ h0 : E.ver r = v)
  ·exact hr.ver r e h
 ·rcases hget r e h with ⟨rfl, rfl⟩ | ⟨_, h⟩
  ·exact ent
  ·exact hr.ent r e h hl
 ·rcases hget r e h with ⟨rfl, rfl⟩ | ⟨_, h⟩
  ·exact absurd ha hab
  ·exact hr.abs r e h ha
 ·rcases hget r e h with ⟨rfl, rfl⟩ | ⟨n1, h1⟩
  ·rcases hget r' e' h' with ⟨rfl, rfl⟩ | ⟨n2, h2⟩
   ·rfl
   ·exact absurd hl' (own hl ▸ fresh r' e' h2)
  ·rcases hget r' e' h' with ⟨rfl, rfl⟩ | ⟨n2, h2⟩
   ·exact absurd hl (own hl' ▸ fresh r e h1)
   ·exact hr.inj r r' e e' b h1 h2 hl hl'
 ·rcases hget r e h with ⟨rfl, rfl⟩ | ⟨_, h⟩
  ·exact own hl ▸ hz
  ·exact hr.zrow r e b h hl
 ·rcases hget r _ h with ⟨_, h1⟩ | ⟨_, h⟩
  ·cases h1; cases hP
  ·exact hr.pool r _ ls h
/-! temporaries -/
def TR (E : Env) (w : World) (t : List AV) (vs : Array Value) : Prop := t.length = vs.size ∧ ∀ (i : Nat) (x : AV), t[i]? = some x → rep E w x (vs.getD i undef)
theorem TR.of_reps {E : Env} {w : World} {t : List AV} {vs : Array Value} (h : reps E w t vs.toList) : TR E w t vs := by
 obtain ⟨h1, h2⟩ := reps_get h
 refine ⟨by simpa using h1, fun i x hx => ?_⟩
 obtain ⟨v, hv, hr⟩ := h2 i x hx
 have : vs.getD i undef = v := by
  rw [Array.getD_eq_getD_getElem?]
  have : vs[i]? = some v := by simpa using hv
  rw [this]; rfl
 rw [this]; exact hr
theorem TR.to_reps {E : Env} {w : World} {t : List AV} {vs : Array Value} (h : TR E w t vs) : reps E w t vs.toList :=
 reps_of (by simpa using h.1) (fun i x v hx hv => by
  have := h.2 i x hx
  have hv' : vs[i]? = some v := by simpa using hv
  rw [Array.getD_eq_getD_getElem?, hv'] at this
  exact this)
def putPs : List AV → List Tmp → List AV → List AV
 | t, p :: ps, x :: xs => putPs (setL t p x) ps xs
 | t, _, _ => t
theorem TR.put {E : Env} {w : World} : ∀ {ps : List Tmp} {args : List AV} {cargs : List Value} {t : List AV} {vs : Array Value}, TR E w t vs → reps E w args cargs → TR E w (putPs t ps args) ((ps.zip cargs).foldl (fun tmps x => tmps.setIfInBounds x.1 x.2) vs)
 | [], args, cargs, t, vs, h, ha => by simpa [putPs] using h
 | p :: ps, [], cargs, t, vs, h, ha => by
  simp only [Go.Proofs.YtmjpbmcbcppkfaaGreatDoor.reps] at ha
  subst ha
  simpa [putPs] using h
 | p :: ps, x :: xs, cargs, t, vs, h, ha => by
  simp only [Go.Proofs.YtmjpbmcbcppkfaaGreatDoor.reps] at ha
  obtain ⟨v, vs', rfl, h1, h2⟩ := ha
  simp only [putPs, List.zip_cons_cons, List.foldl_cons]
  refine TR.put ?_ h2
  refine ⟨by simp [setL_eq, h.1], fun i y hy => ?_⟩
  rw [setL_eq, List.getElem?_set] at hy
  by_cases q : p = i
  ·subst q
   rw [if_pos rfl] at hy
   split at hy
   ·rename_i hlt
    cases hy
    have hp : p < vs.size := by rw [← h.1]; exact hlt
    rw [Array.getD_eq_getD_getElem?, Array.getElem?_setIfInBounds_self_of_lt hp]
    exact h1
   ·cases hy
  ·rw [if_neg q] at hy
   rw [Array.getD_eq_getD_getElem?, Array.getElem?_setIfInBounds_ne q, ← Array.getD_eq_getD_getElem?]
   exact h.2 i y hy
/-! a round -/
def asnK (K : St → Prop) (e : Ex) (s : St) : Prop := match e with
 | .normal => K s
 | _ => False
def rndK (rw ver : Nat) (i : LpI) (tR : List AV) (s : St) (dst : Option Tmp) (K0 : St → Prop) (e : Ex) (s2 : St) : Prop :=
 s2.H.length = s.H.length ∧ getL s2.H rw = some ⟨ver, .dead⟩ ∧ match e with
 | .normal => K0 ⟨setD s.t dst (.val (.bool true)), setL s2.H rw ⟨ver, .lp i tR none⟩⟩
 | .exit id => K0 ⟨setD s.t dst (.val (.bool false)), setL s2.H rw ⟨ver, .lp i tR (some (.exit id))⟩⟩
 | .ret => K0 ⟨setD s.t dst (.val (.bool false)), setL s2.H rw ⟨ver, .lp i tR (some .ret)⟩⟩
theorem Rel.poke {w0 : World} {keep : Bs} {E : Env} {s : St} {a : Act} {w : World} (h : Rel w0 keep E s a w) {l : Nat} (o : Obj) (ho : ∀ cur T fz, o ≠ .cells cur T fz) (hp : Poke E w s.H l) (hd : a.defers = []) :
    Rel (w0.putObj l o) keep E s a (w.putObj l o) := by
 have X := hp.ext o
 have hne : ∀ (k : Nat) cur T fz, (w0.putObj l o).heap[k]? = some (.cells cur T fz) → k ≠ l := by
  rintro k cur T fz hc rfl
  by_cases hlt : k < w0.heap.size
  ·rw [World.putObj_heap_same hlt] at hc
   exact ho _ _ _ (Option.some.inj hc)
  ·have := (Array.getElem?_eq_some_iff.1 hc).1
   rw [World.putObj_size] at this
   exact hlt this
 refine ⟨h.len, fun i x hx => rep_ext X x _ (h.tmps i x hx), ⟨fun _ => hd, by rw [hd]; exact Marks.nil _ _ _⟩, hp.hr o h.hr, ⟨h.fr.os, h.fr.tape, h.fr.output, by simpa using h.fr.size, fun k hk hkk => ?_, fun k cur T fz hc => ?_, fun r e b hr hl hlt => h.fr.rows r e b hr hl (by simpa using hlt)⟩, ?_, fun z b hz => by simpa using h.zone z b hz, fun r e b hr hl => by simpa using h.rows r e b hr hl⟩
 ·by_cases q : k = l
  ·subst q
   have hlt : k < w0.heap.size := by simpa using hk
   have := h.fr.size
   rw [World.putObj_heap_same (by omega), World.putObj_heap_same hlt]
  ·rw [World.putObj_heap_other q, World.putObj_heap_other q]
   exact h.fr.block k (by simpa using hk) hkk
 ·have q := hne k cur T fz hc
  rw [World.putObj_heap_other q] at hc ⊢
  exact h.fr.grow k cur T fz hc
 ·refine ⟨h.ext.ver, h.ext.rho, h.ext.abs, h.ext.zone, fun z b hz => ?_, fun k cur T fz hc => ?_, h.ext.pl⟩
  ·have q : b ≠ l := fun q => hp.zone z (q ▸ h.ext.zone z b hz)
   rw [World.putObj_heap_other q, World.putObj_heap_other q]
   exact h.ext.cell z b hz
  ·have q := hne _ cur T fz hc
   rw [World.putObj_heap_other q] at hc ⊢
   exact h.ext.grow k cur T fz hc
theorem noRange_of : ∀ {c : Code}, noDef c = true → noRange c = true
 | .skip, _ => rfl
 | .label _, _ => rfl
 | .region .., _ => rfl
 | .seq a b, h => by
  simp only [noDef, Bool.and_eq_true] at h
  simp only [noRange, Bool.and_eq_true]
  exact ⟨noRange_of h.1, noRange_of h.2⟩
 | .cond _ a b, h => by
  simp only [noDef, Bool.and_eq_true] at h
  simp only [noRange, Bool.and_eq_true]
  exact ⟨noRange_of h.1, noRange_of h.2⟩
 | .block _ b, h => by simp only [noDef] at h; simp only [noRange]; exact noRange_of h
 | .loop b, h => by simp only [noDef] at h; simp only [noRange]; exact noRange_of h
 | .scope b, h => by simp only [noDef] at h; simp only [noRange]; exact noRange_of h
 | .exit _, _ => rfl
 | .ret, _ => rfl
 | .rangeFunc .., h => by cases h
 | .goto _, h => rfl
 | .refuse _, h => rfl
theorem yield_of {tb : TypeId → Option TI} (htb : TbOk P tb) {p rw ver : Nat} {i : LpI} {tR : List AV} {args : List AV} {s : St} {dst : Option Tmp} {K0 : St → Prop}
    (hrow : getL s.H rw = some ⟨ver, .lp i tR none⟩) (hd1 : noDef i.asn = true) (hd2 : noDef i.body = true) (hlen : args.length = i.ps.size)
    (h : codeW tb P p i.asn (asnK (codeW tb P p i.body (rndK rw ver i tR s dst K0))) ⟨putPs tR i.ps.toList args, setL s.H rw ⟨ver, .dead⟩⟩) :
    yieldK P rw ver args s.H (contU s dst K0) := by
 rw [getL_eq] at hrow
 unfold yieldK
 refine ⟨⟨_, by rw [getL_eq]; exact hrow, rfl⟩, fun v us => contU s dst K0 v us, fun E w cargs hr hargs r n => ?_, fun v us h => h⟩
 have hna : ¬ E.abs rw := fun q => by have := hr.abs rw _ hrow q; simp [Bd.count] at this
 have hliv : Liv E rw ⟨ver, .lp i tR none⟩ := ⟨rfl, hna⟩
 obtain ⟨hl0, R, hR1, hR2, hR3, hR4, hR5, hR6, hR7, hR8, hR9⟩ := (hr.ent rw _ hrow hliv).lp _ _ _ rfl
 obtain ⟨l, hl⟩ : ∃ l, l = E.ρ rw := ⟨_, rfl⟩
 rw [← hl] at hR1 ⊢
 have hlt : l < w.heap.size := (Array.getElem?_eq_some_iff.1 hR1).1
 have hcl := (reps_get hargs).1
 have hver : E.ver rw = ver := hr.ver rw _ hrow
 have hy := run_yield (P := P) (args := cargs.toArray) hR1 (by rw [hR2]; simp; omega)
 refine ⟨_, _, _, _, hy, roundIn_of_wpIn trivial ?_⟩
 rw [hR2, hR3, hR4, hR7]
 -- the rows without the record
 obtain ⟨Hx, hHx⟩ : ∃ Hx, Hx = setL s.H rw ⟨ver, .dead⟩ := ⟨_, rfl⟩
 rw [← hHx] at h
 have hrx : HR E w Hx := by rw [hHx]; exact hr.kill hrow
 have hgetx : ∀ (q : Nat) (e : Ent), Hx[q]? = some e → Liv E q e → q ≠ rw ∧ s.H[q]? = some e := by
  intro q e he hle
  rw [hHx, setL_eq, List.getElem?_set] at he
  by_cases qq : rw = q
  ·subst qq
   rw [if_pos rfl, if_pos (List.getElem?_eq_some_iff.1 hrow).1] at he
   cases he
   cases hle.1
  ·rw [if_neg qq] at he
   exact ⟨fun h => qq h.symm, he⟩
 have hgetb : ∀ (q : Nat) (e : Ent) (b : Nat), Hx[q]? = some e → Blk E q e b → q ≠ rw ∧ s.H[q]? = some e := by
  intro q e b he hle
  rw [hHx, setL_eq, List.getElem?_set] at he
  by_cases qq : rw = q
  ·subst qq
   rw [if_pos rfl, if_pos (List.getElem?_eq_some_iff.1 hrow).1] at he
   cases he
   exact absurd hle Blk.dead
  ·rw [if_neg qq] at he
   exact ⟨fun h => qq h.symm, he⟩
 have hBl : Blk E rw ⟨ver, .lp i tR none⟩ l := hl ▸ Blk.of hliv
 have hkeep : (bsOf E Hx True).keep l := by
  intro q e he hle
  obtain ⟨h1, h2⟩ := hgetb q e l he hle
  exact h1 (hr.inj q rw e _ l h2 hrow hle hBl)
 have hzl : ∀ z, ¬ E.zone z l := fun z => by rw [hl]; exact hr.zrowL rw _ hrow hliv z
 have hst : R.state = .ready := by rw [hR6]; rfl
 have hR0 : Rel w (bsOf E Hx True) E ⟨putPs tR i.ps.toList args, Hx⟩ { tmps := (i.ps.zip cargs.toArray).foldl (fun tmps x => tmps.setIfInBounds x.1 x.2) i.tv, defers := [] } w := by
  have ht := TR.put (ps := i.ps.toList) (TR.of_reps hR8) hargs
  have he : (i.ps.zip cargs.toArray).foldl (fun tmps x => tmps.setIfInBounds x.1 x.2) i.tv = (i.ps.toList.zip cargs).foldl (fun tmps x => tmps.setIfInBounds x.1 x.2) i.tv := by
   rw [← Array.foldl_toList, Array.toList_zip]
  rw [← he] at ht
  exact ⟨ht.1, ht.2, ⟨fun _ => rfl, Marks.nil _ _ _⟩, hrx, ⟨rfl, rfl, rfl, Nat.le_refl _, fun _ _ _ => rfl, fun _ cur T fz h => ⟨cur, T, fz, h, Nat.le_refl _⟩, fun r e b he hl _ hk => hk r e he hl⟩, Ext.refl _ _, fun _ _ h => .inl h, fun r e b he hl => .inr ⟨r, e, he, hl⟩⟩
 -- no row made or kept lies where the record lies
 have off : ∀ {wb : World} {s1 : St} {E1 : Env} {a1 : Act} {w1 : World}, wb.heap.size = w.heap.size → Rel wb (bsOf E Hx True) E1 s1 a1 w1 → (∀ z, ¬ E1.zone z l) ∧ ∀ (q : Nat) (e : Ent), s1.H[q]? = some e → ¬ Blk E1 q e l := by
  intro wb s1 E1 a1 w1 hwb hR
  refine ⟨fun z hz => ?_, fun q e he hle => ?_⟩
  ·rcases hR.zone z l hz with h1 | h1 | ⟨q0, e0, h1, h2⟩
   ·exact hzl z h1
   ·omega
   ·exact hkeep q0 e0 h1 h2
  ·rcases hR.rows q e l he hle with h1 | ⟨q0, e0, h1, h2⟩
   ·omega
   ·exact hkeep q0 e0 h1 h2
 obtain ⟨ob, hob⟩ : ∃ ob : Obj, ob = .loop { R with state := .busy } := ⟨_, rfl⟩
 have fin : ∀ (jump : Option Code) (s2 : St) (E2 : Env) (a2 : Act) (w2 : World), Rel (w.putObj l ob) (bsOf E Hx True) E2 s2 a2 w2 → s2.H.length = s.H.length → getL s2.H rw = some ⟨ver, .dead⟩ →
     (Instr.endRound l jump).run P w2 = .ok (.bool jump.isNone) (w2.putObj l (.loop { R with state := if jump.isNone then .ready else .done, pending := jump })) ∧
     Out E E2 w (w2.putObj l (.loop { R with state := if jump.isNone then .ready else .done, pending := jump })) s.H (usOf (setL s2.H rw ⟨ver, .lp i tR jump⟩) 0) := by
  intro jump s2 E2 a2 w2 hR2' hlen2 hdead
  rw [getL_eq] at hdead
  have hwb : (w.putObj l ob).heap.size = w.heap.size := World.putObj_size
  have hw2 : w2.heap[l]? = some ob := (hR2'.fr.block l (by rw [hwb]; exact hlt) hkeep).trans (World.putObj_heap_same hlt)
  rw [hob] at hw2
  obtain ⟨o1, o2⟩ := off hwb hR2'
  have hend := run_endRound (P := P) jump hw2
  simp only at hend
  refine ⟨hend, ?_⟩
  obtain ⟨R', hR'⟩ : ∃ R' : Loop, R' = { R with state := if jump.isNone then .ready else .done, pending := jump } := ⟨_, rfl⟩
  rw [← hR']
  have pk : Poke E2 w2 s2.H l := ⟨fun cur T fz q => (by rw [hw2] at q; cases q), o1, o2⟩
  have hlc : ∀ (k : Nat) cur T fz, w.heap[k]? = some (.cells cur T fz) → k ≠ l := by
   rintro k cur T fz hc rfl
   rw [hR1] at hc; cases hc
  have XX : Ext E E2 w (w2.putObj l (.loop R')) := by
   have X := hR2'.ext
   refine ⟨X.ver, X.rho, X.abs, X.zone, fun z b hz => ?_, fun k cur T fz hc => ?_, X.pl⟩
   ·have hb : b ≠ l := fun q => hzl z (q ▸ hz)
    rw [World.putObj_heap_other hb]
    exact (X.cell z b hz).trans (World.putObj_heap_other hb)
   ·have hb := hlc _ _ _ _ hc
    rw [World.putObj_heap_other hb]
    exact X.grow k cur T fz ((World.putObj_heap_other (o := ob) hb).trans hc)
  have hv2 : E2.ver rw = E.ver rw := by rw [hR2'.hr.ver rw _ hdead, hver]
  have hρ2 : E2.ρ rw = l := (XX.rho rw hv2).trans hl.symm
  have hab2 : ¬ E2.abs rw := fun q => hna ((XX.abs rw hv2).1 q)
  have hr4 : HR E2 (w2.putObj l (.loop R')) (setL s2.H rw ⟨ver, .lp i tR jump⟩) := by
   refine HR.raise (pk.hr _ hR2'.hr) hdead rfl ⟨fun q => (by cases q), fun i' tR' st' e => ?_⟩ (fun q e h1 => by rw [hρ2]; exact o2 q e h1) (fun z => by rw [hρ2]; exact o1 z) hab2
   simp only [Bd.lp.injEq] at e
   obtain ⟨rfl, rfl, rfl⟩ := e
   rw [hρ2]
   refine ⟨hl.trans hl0, R', World.putObj_heap_same (Array.getElem?_eq_some_iff.1 hw2).1, by rw [hR']; exact hR2, by rw [hR']; exact hR3, by rw [hR']; exact hR4, by rw [hR'], by rw [hR'], by rw [hR']; exact hR7, reps_ext XX _ _ hR8, fun D hD => ?_⟩
   obtain ⟨⟨z, hz⟩, hd⟩ := hR9 D hD
   exact ⟨⟨z, XX.zone z D hz⟩, (XX.cell z D hz).trans hd⟩
  refine ⟨XX, by rw [updH_all (by simp [setL_eq, hlen2])]; exact hr4, hR2'.fr.os, hR2'.fr.tape, hR2'.fr.output, ?_, fun z b hz => ?_, fun k cur T fz hc => ?_, fun k hk hne => ?_, fun q e b he hle => ?_⟩
  ·have := hR2'.fr.size; rw [hwb] at this; rw [World.putObj_size]; exact this
  ·have h := hR2'.zone z b hz
   rw [hwb] at h
   exact h.imp id (Or.imp id fun ⟨q0, e0, h1, h2⟩ => ⟨q0, e0, (hgetb q0 e0 b h1 h2).2, h2⟩)
  ·have hb := hlc _ _ _ _ hc
   rw [World.putObj_heap_other hb]
   exact hR2'.fr.grow k cur T fz (by rw [World.putObj_heap_other hb]; exact hc)
  ·have hall : ∀ (q : Nat) (e : Ent), s.H[q]? = some e → ¬ Blk E q e k := by
     intro q e h1 h2
     have hq := (List.getElem?_eq_some_iff.1 h1).1
     exact hne q e h1 h2 (usOf_mem _ 0 q (Nat.zero_le _) (by simp [setL_eq, hlen2]; exact hq))
   have hkl : k ≠ l := fun q => hall rw _ hrow (q ▸ hBl)
   rw [World.putObj_heap_other hkl]
   refine (hR2'.fr.block k (by rw [hwb]; exact hk) (fun q e h1 h2 => ?_)).trans (World.putObj_heap_other hkl)
   exact hall q e (hgetb q e k h1 h2).2 h2
  ·rw [updH_all (by simp [setL_eq, hlen2])] at he
   rw [setL_eq, List.getElem?_set] at he
   by_cases qq : rw = q
   ·subst qq
    rw [if_pos rfl] at he
    have hbl : b = l := by
     split at he
     ·cases he
      rcases hle with ⟨_, h3⟩ | ⟨h3, _⟩
      ·exact h3.symm.trans hρ2
      ·cases h3
     ·cases he
    exact .inr ⟨rw, _, hrow, hbl ▸ hBl, .inl rfl⟩
   ·rw [if_neg qq] at he
    rcases hR2'.rows q e b he hle with h1 | ⟨q0, e0, h1, h2⟩
    ·left; rw [hwb] at h1; exact h1
    ·have hm := (hgetb q0 e0 b h1 h2).2
     exact .inr ⟨q0, e0, hm, h2, .inr (usOf_mem _ 0 q0 (Nat.zero_le _) (by simp [setL_eq, hlen2]; exact (List.getElem?_eq_some_iff.1 hm).1))⟩
 refine wpIn_mono (codeW_soundI htb (r := some l) (n := n) h (.inr hd1) (fun _ => noRange_of hd1) hR0) fun e a1 w1 ⟨ex, s1, E1, he, hRel1, hq⟩ => ?_
 subst he
 cases ex with
 | exit id => exact hq.elim
 | ret => exact hq.elim
 | normal =>
  have hw1 : w1.heap[l]? = some (.loop R) := (hRel1.fr.block l hlt hkeep).trans hR1
  obtain ⟨o1, o2⟩ := off rfl hRel1
  refine ⟨_, run_beginRound hw1 hst, ?_⟩
  have hRel2 := hRel1.poke ob (by rw [hob]; intro _ _ _ q; cases q) ⟨fun cur T fz q => (by rw [hw1] at q; cases q), o1, o2⟩ (hRel1.defers.1 trivial)
  rw [← hob]
  refine wpIn_mono (codeW_soundI htb (r := some l) (n := n) hq (.inr hd2) (fun _ => noRange_of hd2) hRel2) fun e a2 w2 ⟨ex, s2, E2, he, hRel3, hl2, hd2, hK⟩ => ?_
  subst he
  cases ex with
  | normal =>
   obtain ⟨f1, f2⟩ := fin none s2 E2 a2 w2 hRel3 hl2 hd2
   exact ⟨_, _, f1, _, rfl, _, _, E2, by show K0 ⟨setD s.t dst (.val (.bool true)), updH s.H (usOf _ 0)⟩; rw [updH_all (by simp [setL_eq, hl2])]; exact hK, by rw [rep]; rfl, f2⟩
  | exit id =>
   obtain ⟨f1, f2⟩ := fin (some (.exit id)) s2 E2 a2 w2 hRel3 hl2 hd2
   exact ⟨_, _, f1, _, rfl, _, _, E2, by show K0 ⟨setD s.t dst (.val (.bool false)), updH s.H (usOf _ 0)⟩; rw [updH_all (by simp [setL_eq, hl2])]; exact hK, by rw [rep]; rfl, f2⟩
  | ret =>
   obtain ⟨f1, f2⟩ := fin (some .ret) s2 E2 a2 w2 hRel3 hl2 hd2
   exact ⟨_, _, f1, _, rfl, _, _, E2, by show K0 ⟨setD s.t dst (.val (.bool false)), updH s.H (usOf _ 0)⟩; rw [updH_all (by simp [setL_eq, hl2])]; exact hK, by rw [rep]; rfl, f2⟩
/-! a range -/
def endK (tb : TypeId → Option TI) (rs : List ResultVar) (rw v : Nat) (i : LpI) (t : List AV) (Q : Ex → St → Prop) (e : Ex) (s2 : St) : Prop :=
 retK tb rs (fun _ _ => True) e s2 ∧ ∃ st, getL s2.H rw = some ⟨v, .lp i t st⟩ ∧ match st with
  | none => Q .normal ⟨t, setL s2.H rw ⟨v, .dead⟩⟩
  | some (.exit id) => Q (.exit id) ⟨t, setL s2.H rw ⟨v, .dead⟩⟩
  | some .ret => Q .ret ⟨t, setL s2.H rw ⟨v, .dead⟩⟩
  | _ => False
theorem HR.more {E : Env} {w : World} {H : List Ent} (hr : HR E w H) (m : Nat) : HR E w (H ++ deads m) := by
 have hget : ∀ (r : Nat) (e : Ent), (H ++ deads m)[r]? = some e → H[r]? = some e ∨ (H.length ≤ r ∧ e = ⟨0, .dead⟩) := by
  intro r e he
  rw [List.getElem?_append] at he
  split at he
  ·exact .inl he
  ·exact .inr ⟨by omega, deads_get he⟩
 refine ⟨fun r e he => ?_, fun r e he hl => ?_, fun r e he ha => ?_, fun r r' e e' b he he' hl hl' => ?_, hr.zlt, fun r e b he hl => ?_, fun r h => hr.top r (by rw [List.length_append] at h; omega), hr.gl, fun r v ls he => ?_⟩
 ·rcases hget r e he with h1 | ⟨h1, rfl⟩
  ·exact hr.ver r e h1
  ·exact (hr.top r h1).1
 ·rcases hget r e he with h1 | ⟨h1, rfl⟩
  ·exact hr.ent r e h1 hl
  ·cases hl.1
 ·rcases hget r e he with h1 | ⟨h1, rfl⟩
  ·exact hr.abs r e h1 ha
  ·rfl
 ·rcases hget r e he with h1 | ⟨h1, rfl⟩
  ·rcases hget r' e' he' with h2 | ⟨h2, rfl⟩
   ·exact hr.inj r r' e e' b h1 h2 hl hl'
   ·exact absurd hl' Blk.dead
  ·exact absurd hl Blk.dead
 ·rcases hget r e he with h1 | ⟨h1, rfl⟩
  ·exact hr.zrow r e b h1 hl
  ·exact absurd hl Blk.dead
 ·rcases hget r _ he with h1 | ⟨h1, h2⟩
  ·exact hr.pool r v ls h1
  ·cases h2
theorem more_get {H : List Ent} {m r b : Nat} {e : Ent} {E : Env} (h : (H ++ deads m)[r]? = some e) (hl : Blk E r e b) : H[r]? = some e := by
 rw [List.getElem?_append] at h
 split at h
 ·exact h
 ·have := deads_get h; subst this; exact absurd hl Blk.dead
def Env.zon (E : Env) (D : Nat) : Env := { E with zone := fun z b => E.zone z b ∨ (z = 0 ∧ b = D) }
theorem range_of {tb : TypeId → Option TI} (htb : TbOk P tb) {p' : Nat} {g : Operand} {ps : Array Tmp} {asn body : Code} {Q : Ex → St → Prop} {s : St} {f : FuncId} {caps : List AV} {fn : Func} {c : Code} {nt m : Nat} {rs : List ResultVar} (rw v : Nat)
    (hg : evA s.t g = .clo f caps) (hgp : gpO s.t g) (hf : P.funcs[f]? = some fn) (hb : fn.body = some c) (hn : fn.ntmps = nt) (hrs : fn.results = rs.toArray) (hent : ∀ (as' : Array Value) (w : World), (callFunc f as').run P w = .ok (.enter f as') w) (hnr : noRange c = true)
    (hrw : getL (s.H ++ deads m) rw = some ⟨v, .dead⟩)
    (h : ∀ i : LpI, i.ps = ps → i.asn = asn → i.body = body → codeW tb P p' c (endK tb rs rw (v + 1) i s.t Q) ⟨.yld rw (v + 1) :: caps ++ undefs (nt - (caps.length + 1)), setL (s.H ++ deads m) rw ⟨v + 1, .lp i s.t none⟩⟩) :
    rangeK P g ps asn body Q s := by
 rw [getL_eq] at hrw
 unfold rangeK
 intro w0 keep E a w hpure hR n
 have hgv := hR.opnd hgp
 rw [hg, rep] at hgv
 obtain ⟨cs, hgv, hcs⟩ := hgv
 refine wpIn_rangeFunc (F := FR none) ?_
 intro fn0 _
 -- the blocks that are laid
 obtain ⟨D, hD⟩ : ∃ D, D = w.heap.size := ⟨_, rfl⟩
 obtain ⟨l, hl⟩ : ∃ l, l = w.heap.size + 1 := ⟨_, rfl⟩
 obtain ⟨R, hRr⟩ : ∃ R : Loop, R = { state := .ready, pending := none, fn := fn0, tmps := a.tmps, params := ps, assign := asn, body, defers := w.heap.size } := ⟨_, rfl⟩
 obtain ⟨wD, hwD⟩ : ∃ wD, wD = w.alloc (.deferred (some [])) := ⟨_, rfl⟩
 obtain ⟨W1, hW1⟩ : ∃ W1, W1 = wD.alloc (.loop R) := ⟨_, rfl⟩
 have hszD : wD.heap.size = w.heap.size + 1 := by rw [hwD, World.size_alloc]
 have hD1 : wD.heap[D]? = some (.deferred (some [])) := by rw [hwD, hD]; exact World.alloc_heap_new w _
 have hoD : ∀ k, k < w.heap.size → wD.heap[k]? = w.heap[k]? := fun k hk => by rw [hwD]; exact Below.heap_alloc _ _ _ hk
 have ho1 : ∀ k, k < wD.heap.size → W1.heap[k]? = wD.heap[k]? := fun k hk => by rw [hW1]; exact Below.heap_alloc _ _ _ hk
 have hL1 : W1.heap[l]? = some (.loop R) := by rw [hW1, hl, ← hszD]; exact World.alloc_heap_new wD _
 obtain ⟨Ds, hDs1, hDs2, hDs3⟩ := hR.defers.2
 have henter := run_enterLoop_outer (P := P) (w := w) fn0 a.tmps ps asn body
 rw [← hwD, ← hRr, ← hW1] at henter
 refine ⟨_, _, _, { target := .fn (.func f) cs.toArray, args := #[.func (.yield (w.heap.size + 1)) #[] #[]] }, W1, f, #[.func (.yield (w.heap.size + 1)) #[] #[]] ++ cs.toArray, W1, henter, ?_, fun _ _ => trivial, ?_, fun q => (by cases q), ?_⟩
 ·simp only [resolve, hgv]
  simp [go_sem]
 ·simp [invoke, go_sem, hent]
 -- the environment with the two blocks
 obtain ⟨ED, hED⟩ : ∃ ED, ED = E.zon D := ⟨_, rfl⟩
 have XD : Ext E ED w wD := by
  rw [hED]
  refine ⟨fun _ => Nat.le_refl _, fun _ _ => rfl, fun _ _ => Iff.rfl, fun _ _ h => .inl h, fun z b hz => hoD b (hR.hr.zlt z b hz), fun r cur T fz hc => ⟨cur, T, fz, by rw [hoD _ (Array.getElem?_eq_some_iff.1 hc).1]; exact hc, Nat.le_refl _⟩, fun _ _ _ _ h => h⟩
 have hblE : ∀ (r : Nat) (e : Ent) (b : Nat), Blk ED r e b → Blk E r e b := fun r e b h => by rw [hED] at h; exact h
 have hrD : HR ED wD s.H := by
  refine ⟨fun r e h => by rw [hED]; exact hR.hr.ver r e h, fun r e h hl => ?_, fun r e h ha => hR.hr.abs r e h (by rw [hED] at ha; exact ha), fun r r' e e' b h h' hl hl' => hR.hr.inj r r' e e' b h h' (hblE r e b hl) (hblE r' e' b hl'), fun z b hz => ?_, fun r e b h hl z hz => ?_, fun r h => by rw [hED]; exact hR.hr.top r h, hR.hr.gl.ext XD, fun r v ls h => ?_⟩
  ·have hl' : Liv E r e := by rw [hED] at hl; exact hl
   have e1 : ED.ρ r = E.ρ r := by rw [hED]; rfl
   rw [e1]
   exact (hR.hr.ent r e h hl').ext XD (hoD _ (hR.hr.lt h hl'))
  ·rw [hED] at hz
   rcases hz with hz | ⟨_, rfl⟩
   ·have := hR.hr.zlt z b hz; omega
   ·omega
  ·have hl' := hblE r e b hl
   rw [hED] at hz
   have := hR.hr.blt h hl'
   rcases hz with hz | ⟨_, hb⟩
   ·exact hR.hr.zrow r e b h hl' z hz
   ·omega
  ·have e1 : ED.pl r = E.pl r := by rw [hED]; rfl
   rw [e1]
   exact (hR.hr.pool r v ls h).cong fun i b hb => hoD b ((hR.hr.pool r v ls h).lt hb)
 have OD : Out E ED w wD s.H [] := by
  refine ⟨XD, hrD, by rw [hwD]; rfl, by rw [hwD]; rfl, by rw [hwD]; rfl, by omega, fun z b hz => ?_, fun k cur T fz hc => ⟨cur, T, fz, by rw [hoD _ (Array.getElem?_eq_some_iff.1 hc).1]; exact hc, Nat.le_refl _⟩, fun k hk _ => hoD k hk, fun r e b h hl => .inr ⟨r, e, h, hblE r e b hl, .inl rfl⟩⟩
  rw [hED] at hz
  rcases hz with hz | ⟨_, rfl⟩
  ·exact .inl hz
  ·right; omega
 have hRD : Rel w0 keep ED s a wD := by
  have := hR.put (dst := none) (x := .any) (v := undef) OD (by rw [rep]; trivial)
  exact this
 have hRm : Rel w0 keep ED ⟨s.t, s.H ++ deads m⟩ a wD :=
  ⟨hRD.len, hRD.tmps, hRD.defers, hRD.hr.more m, ⟨hRD.fr.os, hRD.fr.tape, hRD.fr.output, hRD.fr.size, hRD.fr.block, hRD.fr.grow, fun r e b h hl => hRD.fr.rows r e b (more_get h hl) hl⟩, hRD.ext, hRD.zone, fun r e b h hl => hRD.rows r e b (more_get h hl) hl⟩
 obtain ⟨i, hi⟩ : ∃ i : LpI, i = ⟨l, a.tmps, D :: Ds, ps, asn, body⟩ := ⟨_, rfl⟩
 have O1 : Out ED (ED.set rw l (v + 1)) wD W1 (s.H ++ deads m) [(rw, ⟨v + 1, .lp i s.t none⟩)] := by
  refine Out.one hRm.hr hrw rfl (.inr (by simp)) (.inr (by omega)) (by rw [hW1]; rfl) (by rw [hW1]; rfl) (by rw [hW1]; rfl) (by rw [hW1, World.size_alloc]; omega) (fun k hk _ => ho1 k hk) (fun cur T fz hc => ?_) (fun X => ⟨fun q => (by cases q), fun i' tR' st' e => ?_⟩)
  ·have := (Array.getElem?_eq_some_iff.1 hc).1; omega
  ·simp only [Bd.lp.injEq] at e
   obtain ⟨rfl, rfl, rfl⟩ := e
   refine ⟨by rw [hi], R, hL1, by rw [hRr, hi], by rw [hRr, hi], by rw [hRr, hi], by rw [hRr], by rw [hRr]; rfl, by rw [hRr, hi], ?_, fun D' hD' => ?_⟩
   ·have ht : TR ED wD s.t a.tmps := ⟨hRD.len, hRD.tmps⟩
    rw [hi]
    exact reps_ext X _ _ ht.to_reps
   ·rw [hi] at hD'
    have key : (∃ z, ED.zone z D') ∧ wD.heap[D']? = some (.deferred (some [])) := by
     rcases List.mem_cons.1 hD' with rfl | hD'
     ·exact ⟨⟨0, by rw [hED]; exact .inr ⟨rfl, rfl⟩⟩, hD1⟩
     ·obtain ⟨_, ⟨z, hz⟩, hh⟩ := hDs3 D' hD'
      exact ⟨⟨z, XD.zone z D' hz⟩, (XD.cell z D' hz).trans hh⟩
    obtain ⟨⟨z, hz⟩, hh⟩ := key
    exact ⟨⟨z, X.zone z D' hz⟩, (X.cell z D' hz).trans hh⟩
 obtain ⟨E1, hE1⟩ : ∃ E1, E1 = ED.set rw l (v + 1) := ⟨_, rfl⟩
 rw [← hE1] at O1
 have hRc := hRm.put (dst := none) (x := .any) (v := undef) O1 (by rw [rep]; trivial)
 have hput : a.put none undef = a := rfl
 rw [hput] at hRc
 simp only [setD, updH] at hRc
 have X1 : Ext E E1 w W1 := XD.trans O1.ext
 have hargs : reps E1 W1 (.yld rw (v + 1) :: caps) (.func (.yield l) #[] #[] :: cs) := by
  rw [Go.Proofs.YtmjpbmcbcppkfaaGreatDoor.reps]
  refine ⟨_, _, rfl, ?_, reps_ext X1 _ _ hcs⟩
  rw [rep]
  refine ⟨by rw [hE1, Env.set_ver]; exact Nat.le_refl _, fun _ => by rw [hE1, Env.set_ρ]⟩
 have hst := entry_rel hn hRc.hr hargs 0 True
 have hcal : Rel w0 { keep with pure := True } E1 ⟨.yld rw (v + 1) :: caps ++ undefs (nt - (caps.length + 1)), setL (s.H ++ deads m) rw ⟨v + 1, .lp i s.t none⟩⟩ { tmps := (.func (.yield l) #[] #[] :: cs).toArray ++ Array.replicate (fn.ntmps - (.func (.yield l) #[] #[] :: cs).toArray.size) undef, defers := [] } W1 :=
  ⟨hst.len, hst.tmps, ⟨fun _ => rfl, Marks.nil _ _ _⟩, hRc.hr, hRc.fr, hRc.ext, hRc.zone, hRc.rows⟩
 have hargs2 : #[.func (.yield (w.heap.size + 1)) #[] #[]] ++ cs.toArray = (Value.func (.yield l) #[] #[] :: cs).toArray := by
  rw [hl]
  apply Array.ext'
  simp
 rw [hargs2]
 refine (callsIn_wide (n := n - 1)).2 (calls_of_wp hf hb (wp_mono (codeW_sound (keep := { keep with pure := True }) htb (h i (by rw [hi]) (by rw [hi]) (by rw [hi])) (fun _ => hnr) hcal) ?_))
 rintro e a' w3 ⟨ex, s2, E3, rfl, hR3, hret, st, hst3, hcont⟩
 obtain ⟨hex, vv, x, k1, k2, _⟩ := ret_sound htb hrs hret hR3
 have hdef := hR3.defers.1 trivial
 rw [getL_eq] at hst3
 have hna : ¬ E3.abs rw := fun q => by have := hR3.hr.abs rw _ hst3 q; simp [Bd.count] at this
 have hliv3 : Liv E3 rw ⟨v + 1, .lp i s.t st⟩ := ⟨rfl, hna⟩
 obtain ⟨hl3, R3, g1, g2, g3, g4, g5, g6, g7, g8, g9⟩ := (hR3.hr.ent rw _ hst3 hliv3).lp _ _ _ rfl
 have hil : i.l = l := by rw [hi]
 rw [hl3, hil] at g1
 have hend := run_endLoop (P := P) g1 (by rw [g6]; split <;> simp)
 obtain ⟨w4, hw4⟩ : ∃ w4, w4 = w3.putObj l (.loop { R3 with state := .exhausted }) := ⟨_, rfl⟩
 rw [← hw4, g5] at hend
 have hl0 : w0.heap.size ≤ w.heap.size := hR.fr.size
 have hlc : ∀ (k : Nat) cur T fz, w3.heap[k]? = some (.cells cur T fz) → k ≠ l := by
  rintro k cur T fz hc rfl
  rw [g1] at hc; cases hc
 have hzl : ∀ z, ¬ E3.zone z l := fun z => by rw [← hil, ← hl3]; exact hR3.hr.zrowL rw _ hst3 hliv3 z
 have hB3 : Blk E3 rw ⟨v + 1, .lp i s.t st⟩ l := by rw [← hil, ← hl3]; exact Blk.of hliv3
 have hsub : ∀ (q : Nat) (e : Ent), (setL s2.H rw ⟨v + 1, .dead⟩)[q]? = some e → (∃ b, Blk E3 q e b) → q ≠ rw ∧ s2.H[q]? = some e := by
  intro q e he hle
  rw [setL_eq, List.getElem?_set] at he
  by_cases qq : rw = q
  ·subst qq
   rw [if_pos rfl, if_pos (List.getElem?_eq_some_iff.1 hst3).1] at he
   cases he
   obtain ⟨b, hb⟩ := hle
   exact absurd hb Blk.dead
  ·rw [if_neg qq] at he
   exact ⟨fun h => qq h.symm, he⟩
 have pk : Poke E3 w3 (setL s2.H rw ⟨v + 1, .dead⟩) l := by
  refine ⟨fun cur T fz q => (by rw [g1] at q; cases q), hzl, fun q e he hle => ?_⟩
  obtain ⟨n1, n2⟩ := hsub q e he ⟨l, hle⟩
  exact n1 (hR3.hr.inj q rw e _ l n2 hst3 hle hB3)
 have hfin : Rel w0 keep E3 ⟨s.t, setL s2.H rw ⟨v + 1, .dead⟩⟩ { a with defers := mark D :: a.defers } w4 := by
  have htv : i.tv = a.tmps := by rw [hi]
  rw [htv] at g8
  have ht := TR.of_reps g8
  have X3 := pk.ext (.loop { R3 with state := .exhausted })
  rw [← hw4] at X3
  have hkill := hR3.hr.kill hst3
  refine ⟨ht.1, fun q y hy => rep_ext X3 _ _ (ht.2 q y hy), ⟨fun q => absurd q hpure, D :: Ds, by simp [hDs1], List.nodup_cons.2 ⟨fun hm => ?_, hDs2⟩, fun D' hD' => ?_⟩, by rw [hw4]; exact pk.hr _ hkill, ⟨?_, ?_, ?_, ?_, fun k hk hkk => ?_, fun k cur T fz hc => ?_, fun q e b he hle hlt => ?_⟩, ?_, hR3.zone, fun q e b he hle => hR3.rows q e b (hsub q e he ⟨b, hle⟩).2 hle⟩
  ·have := (Array.getElem?_eq_some_iff.1 (hDs3 D hm).2.2).1; omega
  ·obtain ⟨⟨z, hz⟩, hh⟩ := g9 D' (by rw [hi]; exact hD')
   refine ⟨?_, ⟨z, hz⟩, (X3.cell z D' hz).trans hh⟩
   rcases List.mem_cons.1 hD' with rfl | hD'
   ·omega
   ·exact (hDs3 D' hD').1
  ·rw [hw4]; exact hR3.fr.os
  ·rw [hw4]; exact hR3.fr.tape
  ·rw [hw4]; exact hR3.fr.output
  ·rw [hw4, World.putObj_size]; exact hR3.fr.size
  ·rw [hw4, World.putObj_heap_other (by omega)]; exact hR3.fr.block k hk hkk
  ·obtain ⟨cur', T', fz', m1, m2⟩ := hR3.fr.grow k cur T fz hc
   exact ⟨cur', T', fz', by rw [hw4, World.putObj_heap_other (hlc _ _ _ _ m1)]; exact m1, m2⟩
  ·exact hR3.fr.rows q e b (hsub q e he ⟨b, hle⟩).2 hle hlt
  ·have X := hR3.ext
   refine ⟨X.ver, X.rho, X.abs, X.zone, fun z b hz => ?_, fun k cur T fz hc => ?_, X.pl⟩
   ·have hb : b ≠ l := fun q => hzl z (q ▸ X.zone z b hz)
    rw [hw4, World.putObj_heap_other hb]
    exact X.cell z b hz
   ·obtain ⟨cur', T', fz', m1, m2⟩ := X.grow k cur T fz hc
    exact ⟨cur', T', fz', by rw [hw4, World.putObj_heap_other (hlc _ _ _ _ m1)]; exact m1, m2⟩
 have final : rangePost (FR none) n P l (PostS w0 keep Q) { a with defers := mark D :: a.defers } (.returned vv) w3 := by
  refine ⟨st, w4, hend, ?_⟩
  cases st with
  | none => exact ⟨.normal, _, E3, rfl, hfin, hcont⟩
  | some c =>
   cases c <;> first | exact hcont.elim | skip
   ·exact wpIn_exit ⟨.exit _, _, E3, rfl, hfin, hcont⟩
   ·exact wpIn_ret ⟨.ret, _, E3, rfl, hfin, hcont⟩
 rw [hl, hD] at final
 rcases hex with rfl | rfl
 ·exact ⟨hdef, vv, k1, final⟩
 ·exact ⟨hdef, vv, k1, final⟩
/-! the end of a function that has ranged over others -/
mutual
def noY : AV → Prop
 | .agg l => noYs l
 | .tup l => noYs l
 | .sl z sz f d l => 0 < sz ∧ ∀ a, noYs (f a)
 | .cp z cells j => cells ≠ [] ∧ noYs cells
 | .clo f caps => noYs caps
 | .gd φ x => noY x
 | .any => True
 | .val _ => True
 | .bs .. => True
 | .own .. => True
 | .ref .. => True
 | .yld .. => True
 | .mth f l => noYs l
 | .ifc t x => noY x
 | .mp .. => True
 | .pl .. => True
 | .plr .. => True
def noYs : List AV → Prop
 | [] => True
 | x :: xs => noY x ∧ noYs xs
end
def noB : Bd → Prop
 | .dead => True
 | .bytes _ => True
 | .row sz f d l => ∀ a, noYs (f a)
 | .obj l => noYs l
 | .lp .. => False
 | .pool _ => True
def noHs : List Ent → Prop
 | [] => True
 | e :: es => noB e.bd ∧ noHs es
theorem noHs_get : ∀ {H : List Ent} {r : Nat} {e : Ent}, noHs H → H[r]? = some e → noB e.bd
 | x :: H, 0, e, h, he => by simp at he; subst he; exact h.1
 | x :: H, r + 1, e, h, he => noHs_get (H := H) h.2 (by simpa using he)
theorem noB_at {bd : Bd} (h : noB bd) {i : Nat} {ys : List AV} (hy : bd.at i = some ys) : noYs ys := by
 cases bd with
 | dead => simp [Bd.at] at hy
 | bytes l =>
  simp only [Bd.at, Option.map_eq_some_iff] at hy
  obtain ⟨b, _, rfl⟩ := hy
  simp [noYs, noY]
 | row sz f d l =>
  simp only [Bd.at, Option.map_eq_some_iff] at hy
  obtain ⟨b, _, rfl⟩ := hy
  exact h b
 | obj l =>
  simp only [Bd.at] at hy
  split at hy
  ·cases hy; exact h
  ·cases hy
 | lp => simp [Bd.at] at hy
 | pool => simp [Bd.at] at hy
def Env.cut (E : Env) (D : Nat) : Env := { E with zone := fun z b => E.zone z b ∧ b ≠ D }
section
variable {E : Env} {w : World} {D : Nat} {o : Obj}
theorem cell_cut (hD : ∀ cur T fz, w.heap[D]? ≠ some (.cells cur T fz)) {b k : Nat} {v : Value} (h : w.cell? ⟨b, k, none⟩ = some v) : b ≠ D ∧ (w.putObj D o).cell? ⟨b, k, none⟩ = some v := by
 obtain ⟨cur, T, fz, hc⟩ := cells_of_cell h
 have hb : b ≠ D := fun q => hD cur T fz (by rw [← q]; exact hc)
 exact ⟨hb, (World.cell_of_heap (World.putObj_heap_other hb)).trans h⟩
mutual
theorem rep_cut (hD : ∀ cur T fz, w.heap[D]? ≠ some (.cells cur T fz)) : ∀ (x : AV) (v : Value), noY x → rep E w x v → rep (E.cut D) (w.putObj D o) x v
 | .any, v, _, h => by rw [rep]; trivial
 | .val u, v, _, h => by rw [rep] at h ⊢; exact h
 | .agg l, v, hn, h => by
  rw [rep] at h ⊢
  rw [noY] at hn
  obtain ⟨cs, rfl, h⟩ := h
  exact ⟨cs, rfl, reps_cut hD l cs hn h⟩
 | .tup l, v, hn, h => by
  rw [rep] at h ⊢
  rw [noY] at hn
  obtain ⟨cs, rfl, h⟩ := h
  exact ⟨cs, rfl, reps_cut hD l cs hn h⟩
 | .bs z l, v, _, h => by
  rw [rep] at h ⊢
  obtain ⟨a, n, c, rfl, h1, h2, h3, h4, h5⟩ := h
  refine ⟨a, n, c, rfl, h1, h2, h3, h4, fun i x hx => ?_⟩
  obtain ⟨b, k, h6, h7, h8⟩ := h5 i x hx
  obtain ⟨hb, hc⟩ := cell_cut (o := o) hD h8
  exact ⟨b, k, h6, ⟨h7, hb⟩, hc⟩
 | .sl z sz f d l, v, hn, h => by
  rw [rep] at h ⊢
  rw [noY] at hn
  obtain ⟨a, n, c, rfl, h1, h2, h3, h4, h5⟩ := h
  refine ⟨a, n, c, rfl, h1, h2, h3, h4, fun i x hx => ?_⟩
  obtain ⟨b, k, cs, h6, h7, h8, h9, h10⟩ := h5 i x hx
  have h0 := h10 0 _ (List.getElem?_eq_getElem (by omega))
  have hb := (cell_cut (o := o) hD h0).1
  exact ⟨b, k, cs, h6, ⟨h7, hb⟩, h8, reps_cut hD (f x) cs (hn.2 x) h9, fun j u hu => (cell_cut hD (h10 j u hu)).2⟩
 | .own r ver sz off n, v, _, h => by
  rw [rep] at h ⊢
  refine ⟨h.1, fun e => ?_⟩
  obtain ⟨a, c, rfl, h1, h2, h3, h4⟩ := h.2 e
  refine ⟨a, c, rfl, h1, h2, h3, h4.imp id fun ⟨h5, h6, cur, T, fz, h7, h8⟩ => ⟨h5, h6, cur, T, fz, ?_, h8⟩⟩
  have hb : E.ρ r ≠ D := fun q => hD cur T fz (by rw [← q]; exact h7)
  exact (World.putObj_heap_other (o := o) hb).trans h7
 | .ref r ver sz i j, v, _, h => by rw [rep] at h ⊢; exact h
 | .cp z cells j, v, hn, h => by
  rw [rep] at h ⊢
  rw [noY] at hn
  obtain ⟨b, k, cs, rfl, h7, h9, h10⟩ := h
  have hl := (reps_get h9).1
  have hpos : 0 < cs.length := by
   rw [← hl]
   cases cells with
   | nil => exact absurd rfl hn.1
   | cons => simp
  have hb := (cell_cut (o := o) hD (h10 0 _ (List.getElem?_eq_getElem hpos))).1
  exact ⟨b, k, cs, rfl, ⟨h7, hb⟩, reps_cut hD cells cs hn.2 h9, fun j u hu => (cell_cut hD (h10 j u hu)).2⟩
 | .clo f caps, v, hn, h => by
  rw [rep] at h ⊢
  rw [noY] at hn
  obtain ⟨cs, rfl, h⟩ := h
  exact ⟨cs, rfl, reps_cut hD caps cs hn h⟩
 | .yld r ver, v, _, h => by rw [rep] at h ⊢; exact h
 | .mth f l, v, hn, h => by
  rw [rep] at h ⊢
  rw [noY] at hn
  obtain ⟨cs, rfl, h⟩ := h
  exact ⟨cs, rfl, reps_cut hD l cs hn h⟩
 | .ifc t x, v, hn, h => by
  rw [rep] at h ⊢
  rw [noY] at hn
  obtain ⟨u, rfl, h⟩ := h
  exact ⟨u, rfl, rep_cut hD x u hn h⟩
 | .mp r ver, v, _, h => by rw [rep] at h ⊢; exact h
 | .pl r ver i off n, v, _, h => by
  rw [rep] at h ⊢
  refine ⟨h.1, fun e => ?_⟩
  obtain ⟨a, c, rfl, h1, h2, h3, h4⟩ := h.2 e
  refine ⟨a, c, rfl, h1, h2, h3, h4.imp id fun ⟨b, h5, h6, cur, T, fz, h7, h8⟩ => ⟨b, h5, h6, cur, T, fz, ?_, h8⟩⟩
  have hb : b ≠ D := fun q => hD cur T fz (by rw [← q]; exact h7)
  exact (World.putObj_heap_other (o := o) hb).trans h7
 | .plr r ver i k, v, _, h => by rw [rep] at h ⊢; exact h
 | .gd φ x, v, hn, h => by
  rw [rep] at h ⊢
  rw [noY] at hn
  exact ⟨fun p => rep_cut hD x v hn (h.1 p), h.2⟩
theorem reps_cut (hD : ∀ cur T fz, w.heap[D]? ≠ some (.cells cur T fz)) : ∀ (xs : List AV) (vs : List Value), noYs xs → reps E w xs vs → reps (E.cut D) (w.putObj D o) xs vs
 | [], vs, _, h => by rw [reps] at h ⊢; exact h
 | x :: xs, vs, hn, h => by
  rw [reps] at h ⊢
  rw [noYs] at hn
  obtain ⟨v, vs', rfl, h1, h2⟩ := h
  exact ⟨v, vs', rfl, rep_cut hD x v hn.1 h1, reps_cut hD xs vs' hn.2 h2⟩
end
end
theorem noYs_get : ∀ {t : List AV} {i : Nat} {x : AV}, noYs t → t[i]? = some x → noY x
 | y :: t, 0, x, h, hx => by simp at hx; subst hx; rw [noYs] at h; exact h.1
 | y :: t, i + 1, x, h, hx => by rw [noYs] at h; exact noYs_get (t := t) h.2 (by simpa using hx)
theorem Rel.cut {w0 : World} {keep : Bs} {E : Env} {s : St} {a : Act} {w : World} (h : Rel w0 keep E s a w) (ht : noYs s.t) (hH : noHs s.H) {D : Nat} {ds : Option (List Deferred)} (hD : w.heap[D]? = some (.deferred ds)) (h0 : w0.heap.size ≤ D) (o : Obj) :
    Rel w0 keep (E.cut D) s { a with defers := [] } (w.putObj D o) := by
 have hc : ∀ cur T fz, w.heap[D]? ≠ some (.cells cur T fz) := fun cur T fz q => by rw [hD] at q; cases q
 have hrow : ∀ (r : Nat) (e : Ent), s.H[r]? = some e → Liv E r e → E.ρ r ≠ D := by
  intro r e hr hl q
  have hent := h.hr.ent r e hr hl
  cases hb : e.bd with
  | dead => have := hl.1; rw [hb] at this; cases this
  | pool => have := hl.1; rw [hb] at this; cases this
  | lp i tR st =>
   obtain ⟨_, R, h1, _⟩ := hent.lp _ _ _ hb
   rw [q, hD] at h1; cases h1
  | bytes l => obtain ⟨cur, T, lo, hi, h1, _⟩ := hent.blk (by rw [hb]; rfl); rw [q] at h1; exact hc _ _ _ h1
  | row sz f d l => obtain ⟨cur, T, lo, hi, h1, _⟩ := hent.blk (by rw [hb]; rfl); rw [q] at h1; exact hc _ _ _ h1
  | obj l => obtain ⟨cur, T, lo, hi, h1, _⟩ := hent.blk (by rw [hb]; rfl); rw [q] at h1; exact hc _ _ _ h1
 refine ⟨h.len, fun i x hx => rep_cut hc x _ (noYs_get ht hx) (h.tmps i x hx), ⟨fun _ => rfl, Marks.nil _ _ _⟩, ⟨h.hr.ver, fun r e hr hl => ?_, h.hr.abs, h.hr.inj, fun z b hz => by rw [World.putObj_size]; exact h.hr.zlt z b hz.1, fun r e b hr hl z hz => h.hr.zrow r e b hr hl z hz.1, h.hr.top, fun g cs hg => ?_, fun r v ls hr => (h.hr.pool r v ls hr).cong fun i b hb => ?_⟩, ⟨h.fr.os, h.fr.tape, h.fr.output, by simpa using h.fr.size, fun k hk hkk => ?_, fun k cur T fz hcc => ?_, h.fr.rows⟩, ⟨h.ext.ver, h.ext.rho, h.ext.abs, fun z b hz => ?_, fun z b hz => ?_, fun k cur T fz hcc => ?_, h.ext.pl⟩, fun z b hz => h.zone z b hz.1, h.rows⟩
 ·have hn := noHs_get hH hr
  have hent := h.hr.ent r e hr hl
  have hne := hrow r e hr hl
  refine ⟨fun q => ?_, fun i tR st q => by rw [q] at hn; exact hn.elim⟩
  obtain ⟨cur, T, lo, hi, h1, h2, h3, h4⟩ := hent.blk q
  refine ⟨cur, T, lo, hi, (World.putObj_heap_other (w := w) (o := o) hne).trans h1, h2, h3, fun i ys hy => ?_⟩
  obtain ⟨cs, h5, h6, h7⟩ := h4 i ys hy
  exact ⟨cs, h5, reps_cut hc _ _ (noB_at hn hy) h6, h7⟩
 ·have h1 := h.hr.gl g cs hg
  have hb : g ≠ D := by
   intro q
   cases cs with
   | nil => exact laidG_ne hg rfl
   | cons u cs =>
    have h2 := h1.2 0 u rfl
    rw [q, World.cell?] at h2
    simp [hD] at h2
  exact ⟨⟨h1.1, hb⟩, fun j u hu => (World.cell_of_heap (World.putObj_heap_other (w := w) (o := o) hb)).trans (h1.2 j u hu)⟩
 ·have hp := h.hr.pool r v ls hr
  obtain ⟨cur, T, lo, hi, h1, _⟩ := hp.blk i _ b (List.getElem?_eq_getElem (hp.top i b hb)) hb
  exact World.putObj_heap_other (fun q => hc cur T _ (by rw [← q]; exact h1))
 ·rw [World.putObj_heap_other (by omega)]; exact h.fr.block k hk hkk
 ·obtain ⟨cur', T', fz', h1, h2⟩ := h.fr.grow k cur T fz hcc
  exact ⟨cur', T', fz', by rw [World.putObj_heap_other (fun q => hc _ _ _ (by rw [← q]; exact h1))]; exact h1, h2⟩
 ·refine ⟨h.ext.zone z b hz, fun q => ?_⟩
  have := h.ext.cell z b hz
  rw [q, hD] at this
  have := (Array.getElem?_eq_some_iff.1 this.symm).1
  omega
 ·have := h.ext.cell z b hz
  have hb : b ≠ D := fun q => by
   rw [q, hD] at this
   have := (Array.getElem?_eq_some_iff.1 this.symm).1
   omega
  rw [World.putObj_heap_other hb]; exact this
 ·obtain ⟨cur', T', fz', h1, h2⟩ := h.ext.grow k cur T fz hcc
  exact ⟨cur', T', fz', by rw [World.putObj_heap_other (fun q => hc _ _ _ (by rw [← q]; exact h1))]; exact h1, h2⟩
def shut : List Nat → World → World
 | [], w => w
 | D :: Ds, w => shut Ds (w.putObj D (.deferred none))
theorem leaves_marks {F : Fence} {n : Nat} {fn : Func} {tmps : Array Value} {R : Ending → World → Prop} : ∀ {Ds : List Nat} {w : World}, Ds.Nodup → (∀ D ∈ Ds, w.heap[D]? = some (.deferred (some []))) → (∃ v, (results fn tmps).run P (shut Ds w) = .ok v (shut Ds w) ∧ R (.returned v) (shut Ds w)) →
    LeavesInM F n P fn tmps R (Ds.map mark) .returning w
 | [], w, _, _, h => h
 | D :: Ds, w, hnd, hD, h => by
  obtain ⟨h1, h2⟩ := List.nodup_cons.1 hnd
  refine ⟨by simp, .inl ⟨D, w.putObj D (.deferred none), rfl, run_takeDeferred (hD D (by simp)), leaves_marks h2 (fun D' hD' => ?_) h⟩⟩
  rw [World.putObj_heap_other (fun q => h1 (by rw [← q]; exact hD'))]
  exact hD D' (by simp [hD'])
theorem Rel.cuts {w0 : World} {keep : Bs} {s : St} (ht : noYs s.t) (hH : noHs s.H) : ∀ {Ds : List Nat} {E : Env} {a : Act} {w : World}, Rel w0 keep E s a w → Ds.Nodup → (∀ D ∈ Ds, w0.heap.size ≤ D ∧ w.heap[D]? = some (.deferred (some []))) → ∃ E', Rel w0 keep E' s { a with defers := if Ds = [] then a.defers else [] } (shut Ds w)
 | [], E, a, w, h, _, _ => ⟨E, h⟩
 | D :: Ds, E, a, w, h, hnd, hD => by
  obtain ⟨h1, h2⟩ := List.nodup_cons.1 hnd
  obtain ⟨h3, h4⟩ := hD D (by simp)
  have hc := h.cut ht hH h4 h3 (.deferred none)
  obtain ⟨E', h5⟩ := Rel.cuts ht hH (Ds := Ds) hc h2 (fun D' hD' => ⟨(hD D' (by simp [hD'])).1, by rw [World.putObj_heap_other (fun q => h1 (by rw [← q]; exact hD'))]; exact (hD D' (by simp [hD'])).2⟩)
  refine ⟨E', ?_⟩
  have e : (if Ds = [] then ([] : List Deferred) else []) = [] := by split <;> rfl
  simp only [e] at h5
  rw [if_neg (by simp)]
  exact h5
def retR (tb : TypeId → Option TI) (rs : List ResultVar) (post : AV → List Ent → Prop) (e : Ex) (s : St) : Prop := ∃ s', leS s s' ∧ noYs s'.t ∧ noHs s'.H ∧ retK tb rs post e s'
theorem spec_entryR {tb : TypeId → Option TI} (htb : TbOk P tb) {f : FuncId} {fn : Func} {c : Code} {n : Nat} {rs : List ResultVar} (hf : P.funcs[f]? = some fn) (hb : fn.body = some c) (hn : fn.ntmps = n) (hrs : fn.results = rs.toArray)
    {args : List AV} {H0 : List Ent} {post : AV → List Ent → Prop} (p m : Nat) (h : codeW tb P p c (retR tb rs fun x H => H0.length ≤ H.length ∧ post x H) ⟨args ++ undefs (n - args.length), H0 ++ deads m⟩) : Spec P f args H0 post := by
 intro w E cargs hr hargs
 refine (callsIn_wide (n := 0)).1 (callsIn_of_wp_marks hf hb trivial (wpIn_mono (codeW_soundI (r := none) (keep := bsOf E H0 False) htb h (.inl rfl) (fun q => q.elim) (entry_rel hn hr hargs m False)) ?_))
 rintro e a w' ⟨ex, s0, E0, rfl, hR0, s, hle, ht, hH, hQ⟩
 obtain ⟨E1, hR1⟩ := hle _ _ _ _ _ hR0
 obtain ⟨Ds, hd1, hd2, hd3⟩ := hR1.defers.2
 obtain ⟨E', hR⟩ := Rel.cuts ht hH hR1 hd2 (fun D hD => ⟨(hd3 D hD).1, (hd3 D hD).2.2⟩)
 obtain ⟨hex, v, x, h1, h2, h3⟩ := ret_sound htb hrs hQ hR
 have key : LeavesInM (FR none) 0 P fn a.tmps (fun e w' => ∃ v x H E', e = .returned v ∧ post x H ∧ rep E' w' x v ∧ HR E' w' H ∧ Ext E E' w w' ∧ (∀ z b, E'.zone z b → E.zone z b ∨ w.heap.size ≤ b ∨ Hb E H0 b) ∧ H0.length ≤ H.length ∧ (∀ (r : Nat) (e : Ent) (b : Nat), H[r]? = some e → Blk E' r e b → w.heap.size ≤ b ∨ ∃ (r0 : Nat) (e0 : Ent), H0[r0]? = some e0 ∧ Blk E r0 e0 b) ∧ Fr w (fun k => ∀ (r : Nat) (e : Ent), H0[r]? = some e → ¬ Blk E r e k) E' H w') a.defers .returning w' := by
  rw [hd1]
  exact leaves_marks hd2 (fun D hD => (hd3 D hD).2.2) ⟨v, h1, v, x, s.H, E', rfl, h3.2, h2, hR.hr, hR.ext, hR.zone, h3.1, hR.rows, hR.fr⟩
 rcases hex with rfl | rfl
 ·exact key
 ·exact key
end
end Go.Proofs.YtmjpbmcbcppkfaaGreatDoor
