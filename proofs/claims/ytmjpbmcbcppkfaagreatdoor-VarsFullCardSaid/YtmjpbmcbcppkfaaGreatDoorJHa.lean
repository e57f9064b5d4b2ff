/- Rows that nobody writes any more become zones; calls of functions that keep off all rows. Conditions: the premises of each. A row that takes another one's place. A row that becomes a part of zone 0 where a loop goes back. Conditions: the premises. A row becomes the zone 0 ahead of a call. Conditions: the premises of each law. -/
import Derived.Test.YtmjpbmcbcppkfaaGreatDoorJAp
import Derived.Test.YtmjpbmcbcppkfaaGreatDoorJAc
namespace Go.Proofs.YtmjpbmcbcppkfaaGreatDoor
set_option linter.unusedVariables false
set_option linter.unusedSimpArgs false
open Go.RowKit
/-! what a slice of a row, or a pointer into one, reads as, where the row's blocks lie in a zone -/
theorem cv_bs {E E' : Env} {w : World} {H : List Ent} (hr : HR E w H) {r ver off n ζ : Nat} {l : List UInt8} (he : H[r]? = some ⟨ver, .bytes l⟩) (hle : off + n ≤ l.length) {v : Value} (h : rep E w (.own r ver 1 off n) v) (hz : ∀ b, Blk E r ⟨ver, .bytes l⟩ b → E'.zone ζ b) : rep E' w (.bs ζ ((l.drop off).take n)) v := by
 simp only [rep] at h ⊢
 obtain ⟨a, c, rfl, h2, h3, h4, h5⟩ := h.2 (hr.ver r _ he).symm
 refine ⟨a, n, c, rfl, by rw [List.length_take, List.length_drop]; omega, h2, h3, h4, fun i x hx => ?_⟩
 have hi := (List.getElem?_eq_some_iff.1 hx).1
 rw [List.length_take] at hi
 obtain ⟨hna, rfl, _⟩ := h5.resolve_left (by omega)
 have hliv : Liv E r ⟨ver, .bytes l⟩ := ⟨rfl, hna⟩
 obtain ⟨cur, T, lo, hi', g1, g2, g3, g4⟩ := (hr.ent r _ he hliv).blk rfl
 have hx' : l[off + i]? = some x := by
  rw [List.getElem?_take] at hx
  split at hx
  ·rw [List.getElem?_drop] at hx; exact hx
  ·cases hx
 obtain ⟨cs, k1, k2, k3⟩ := g4 (off + i) [.val (bv x)] (by simp only [Bd.at]; rw [hx']; rfl)
 simp only [reps, rep] at k2
 obtain ⟨u, vs, rfl, rfl, rfl⟩ := k2
 refine ⟨_, _, rfl, hz _ (Blk.of hliv), ?_⟩
 rw [cell_of_row w _ _ cur T (lo, hi') g1]
 have := k3 0 _ rfl
 simp only [Bd.sz, Nat.add_zero, Nat.mul_one] at this ⊢
 exact this
theorem cv_pl {E E' : Env} {w : World} {H : List Ent} (hr : HR E w H) {r ver i off n ζ : Nat} {ls : List (List UInt8)} {l : List UInt8} (he : H[r]? = some ⟨ver, .pool ls⟩) (hl : ls[i]? = some l) (hle : off + n ≤ l.length) {v : Value} (h : rep E w (.pl r ver i off n) v) (hz : ∀ b, Blk E r ⟨ver, .pool ls⟩ b → E'.zone ζ b) : rep E' w (.bs ζ ((l.drop off).take n)) v := by
 obtain ⟨a, c, rfl, h1, h2, h3, h4⟩ := hr.plAt he hl hle rfl h
 rw [rep]
 refine ⟨a, n, c, rfl, by rw [List.length_take, List.length_drop]; omega, h1, h2, h3, fun j x hx => ?_⟩
 obtain ⟨b, h5, h6, h7⟩ := h4 j x hx
 exact ⟨b, off, h6, hz b (.inr ⟨rfl, i, h5⟩), h7⟩
theorem cv_cp {E E' : Env} {w : World} {H : List Ent} (hr : HR E w H) {r ver sz j ζ : Nat} {cells cells' : List AV} (he : H[r]? = some ⟨ver, .obj cells⟩) (hna : ¬ E.abs r) (hc : ∀ cs, reps E w cells cs → reps E' w cells' cs) {v : Value} (h : rep E w (.ref r ver sz 0 j) v) (hz : ∀ b, Blk E r ⟨ver, .obj cells⟩ b → E'.zone ζ b) : rep E' w (.cp ζ cells' j) v := by
 simp only [rep] at h ⊢
 have hv := h.2 (hr.ver r _ he).symm
 have hliv : Liv E r ⟨ver, .obj cells⟩ := ⟨rfl, hna⟩
 obtain ⟨cur, T, lo, hi', g1, g2, g3, g4⟩ := (hr.ent r _ he hliv).blk rfl
 obtain ⟨cs, k1, k2, k3⟩ := g4 0 cells rfl
 refine ⟨E.ρ r, 0, cs, by rw [hv]; simp, hz _ (Blk.of hliv), hc cs k2, fun i u hu => ?_⟩
 rw [cell_of_row w _ _ cur T (lo, hi') g1]
 have := k3 i u hu
 simp only [Nat.zero_mul] at this
 exact this
/-! no row, and no zone but 0 -/
mutual
def prA : AV → Prop
 | .any => True
 | .val v => True
 | .agg l => prAs l
 | .tup l => prAs l
 | .bs z l => z = 0
 | .sl z sz f d l => z = 0 ∧ ∀ x, prAs (f x)
 | .own r ver sz off n => False
 | .ref r ver sz i j => False
 | .cp z cells j => z = 0 ∧ prAs cells
 | .clo f caps => prAs caps
 | .yld r ver => False
 | .mth f l => prAs l
 | .ifc t x => prA x
 | .mp r ver => False
 | .pl r ver i off n => False
 | .plr r ver i k => False
 | .gd φ x => prA x
def prAs : List AV → Prop
 | [] => True
 | x :: xs => prA x ∧ prAs xs
end
mutual
theorem rep_pr {E E' : Env} {w : World} (hz : ∀ b, E.zone 0 b → E'.zone 0 b) : ∀ (x : AV) (v : Value), prA x → rep E w x v → rep E' w x v
 | .any, v, _, h => by simp only [rep]
 | .val u, v, _, h => by simp only [rep] at h ⊢; exact h
 | .agg l, v, hp, h => by
  simp only [rep] at h ⊢
  obtain ⟨cs, h1, h2⟩ := h
  exact ⟨cs, h1, reps_pr hz l cs hp h2⟩
 | .tup l, v, hp, h => by
  simp only [rep] at h ⊢
  obtain ⟨cs, h1, h2⟩ := h
  exact ⟨cs, h1, reps_pr hz l cs hp h2⟩
 | .bs z l, v, hp, h => by
  simp only [prA] at hp
  subst hp
  simp only [rep] at h ⊢
  obtain ⟨a, n, c, h1, h2, h3, h4, h5, h6⟩ := h
  refine ⟨a, n, c, h1, h2, h3, h4, h5, fun i x hx => ?_⟩
  obtain ⟨b, o, g1, g2, g3⟩ := h6 i x hx
  exact ⟨b, o, g1, hz b g2, g3⟩
 | .sl z sz f d l, v, hp, h => by
  simp only [prA] at hp
  obtain ⟨rfl, hp⟩ := hp
  simp only [rep] at h ⊢
  obtain ⟨a, n, c, h1, h2, h3, h4, h5, h6⟩ := h
  refine ⟨a, n, c, h1, h2, h3, h4, h5, fun i x hx => ?_⟩
  obtain ⟨b, o, cs, g1, g2, g3, g4, g5⟩ := h6 i x hx
  exact ⟨b, o, cs, g1, hz b g2, g3, reps_pr hz (f x) cs (hp x) g4, g5⟩
 | .own r ver sz off n, v, hp, h => by simp only [prA] at hp
 | .ref r ver sz i j, v, hp, h => by simp only [prA] at hp
 | .cp z cells j, v, hp, h => by
  simp only [prA] at hp
  obtain ⟨rfl, hp⟩ := hp
  simp only [rep] at h ⊢
  obtain ⟨b, o, cs, g1, g2, g3, g4⟩ := h
  exact ⟨b, o, cs, g1, hz b g2, reps_pr hz cells cs hp g3, g4⟩
 | .clo f caps, v, hp, h => by
  simp only [prA] at hp
  simp only [rep] at h ⊢
  obtain ⟨cs, h1, h2⟩ := h
  exact ⟨cs, h1, reps_pr hz caps cs hp h2⟩
 | .yld r ver, v, hp, h => by simp only [prA] at hp
 | .mth f l, v, hp, h => by
  simp only [prA] at hp
  simp only [rep] at h ⊢
  obtain ⟨cs, h1, h2⟩ := h
  exact ⟨cs, h1, reps_pr hz l cs hp h2⟩
 | .ifc t x, v, hp, h => by
  simp only [prA] at hp
  simp only [rep] at h ⊢
  obtain ⟨u, h1, h2⟩ := h
  exact ⟨u, h1, rep_pr hz x u hp h2⟩
 | .mp r ver, v, hp, h => by simp only [prA] at hp
 | .pl r ver i off n, v, hp, h => by simp only [prA] at hp
 | .plr r ver i k, v, hp, h => by simp only [prA] at hp
 | .gd φ x, v, hp, h => by
  simp only [prA] at hp
  simp only [rep] at h ⊢
  exact ⟨fun q => rep_pr hz x v hp (h.1 q), h.2⟩
theorem reps_pr {E E' : Env} {w : World} (hz : ∀ b, E.zone 0 b → E'.zone 0 b) : ∀ (xs : List AV) (vs : List Value), prAs xs → reps E w xs vs → reps E' w xs vs
 | [], vs, _, h => by simp only [reps] at h ⊢; exact h
 | x :: xs, vs, hp, h => by
  simp only [prAs] at hp
  simp only [reps] at h ⊢
  obtain ⟨v, vs', h1, h2, h3⟩ := h
  exact ⟨v, vs', h1, rep_pr hz x v hp.1 h2, reps_pr hz xs vs' hp.2 h3⟩
end
/-! CALLS OF FUNCTIONS THAT KEEP OFF ALL ROWS: what is handed in, of whatever zone or row, lies in the zone 1 for them; what comes back lies in the zone 0 -/
structure Cl (E E0 : Env) (w : World) : Prop where
 zero : ∀ b, E.zone 0 b → E0.zone 0 b
 one : ∀ b, b < w.heap.size → E0.zone 1 b
def AH (hg : Nat → Option Ent) (x y : AV) : Prop := ∀ (E E0 : Env) (H : List Ent) (w : World) (v : Value), HR E w H → (∀ (r : Nat) (e : Ent), hg r = some e → H[r]? = some e) → Cl E E0 w → rep E w x v → rep E0 w y v
def AHL (hg : Nat → Option Ent) (xs ys : List AV) : Prop := ∀ (E E0 : Env) (H : List Ent) (w : World) (vs : List Value), HR E w H → (∀ (r : Nat) (e : Ent), hg r = some e → H[r]? = some e) → Cl E E0 w → reps E w xs vs → reps E0 w ys vs
section
variable {hg : Nat → Option Ent}
theorem AHL.nil : AHL hg [] [] := fun E E0 H w vs _ _ _ h => by simp only [reps] at h ⊢; exact h
theorem AHL.cons {x y : AV} {xs ys : List AV} (h : AH hg x y) (k : AHL hg xs ys) : AHL hg (x :: xs) (y :: ys) := fun E E0 H w vs hr hh hc hv => by
 simp only [reps] at hv ⊢
 obtain ⟨v, vs', h1, h2, h3⟩ := hv
 exact ⟨v, vs', h1, h E E0 H w v hr hh hc h2, k E E0 H w vs' hr hh hc h3⟩
theorem AH.pr {x : AV} (h : prA x) : AH hg x x := fun E E0 H w v _ _ hc hv => rep_pr hc.zero x v h hv
theorem AH.val {u : Value} : AH hg (.val u) (.val u) := AH.pr (by simp only [prA])
theorem AH.any {x : AV} : AH hg x .any := fun E E0 H w v _ _ _ _ => by simp only [rep]
theorem AH.agg {xs ys : List AV} (h : AHL hg xs ys) : AH hg (.agg xs) (.agg ys) := fun E E0 H w v hr hh hc hv => by
 simp only [rep] at hv ⊢
 obtain ⟨cs, h1, h2⟩ := hv
 exact ⟨cs, h1, h E E0 H w cs hr hh hc h2⟩
theorem AH.bs {z : Nat} {l : List UInt8} : AH hg (.bs z l) (.bs 1 l) := fun E E0 H w v hr hh hc hv => by
 simp only [rep] at hv ⊢
 obtain ⟨a, n, c, h1, h2, h3, h4, h5, h6⟩ := hv
 refine ⟨a, n, c, h1, h2, h3, h4, h5, fun i x hx => ?_⟩
 obtain ⟨b, o, g1, g2, g3⟩ := h6 i x hx
 exact ⟨b, o, g1, hc.one b (hr.zlt z b g2), g3⟩
theorem AH.nil : AH hg (.val (.slice none 0 0)) (.bs 1 []) := fun E E0 H w v hr hh hc hv => by
 simp only [rep] at hv ⊢
 exact ⟨none, 0, 0, hv, rfl, Nat.le_refl _, Nat.zero_le _, fun _ => rfl, fun i x hx => by simp at hx⟩
theorem AH.ownP {r ver off n : Nat} {l : List UInt8} (he : hg r = some ⟨ver, .bytes l⟩) (hle : off + n ≤ l.length) : AH hg (.own r ver 1 off n) (.bs 1 ((l.drop off).take n)) := fun E E0 H w v hr hh hc hv =>
 cv_bs hr (hh r _ he) hle hv fun b hb => hc.one b (hr.blt (hh r _ he) hb)
theorem AH.own {r ver n : Nat} {l : List UInt8} (he : hg r = some ⟨ver, .bytes l⟩) (hn : n = l.length) : AH hg (.own r ver 1 0 n) (.bs 1 l) := by
 subst hn
 have h := AH.ownP (off := 0) (n := l.length) he (by omega)
 rw [List.drop_zero, List.take_length] at h
 exact h
theorem AH.pl {r ver i n : Nat} {ls : List (List UInt8)} {l : List UInt8} (he : hg r = some ⟨ver, .pool ls⟩) (hl : ls[i]? = some l) (hn : n = l.length) : AH hg (.pl r ver i 0 n) (.bs 1 l) := by
 subst hn
 intro E E0 H w v hr hh hc hv
 have h := cv_pl (ζ := 1) (off := 0) (n := l.length) hr (hh r _ he) hl (by omega) hv fun b hb => hc.one b (hr.blt (hh r _ he) hb)
 rw [List.drop_zero, List.take_length] at h
 exact h
theorem AH.sl {z sz : Nat} {α β : Type} {f : α → List AV} {d : α} {l : List α} {g : β → List AV} {d' : β} {ls : List β} (hl : ls.length = l.length)
    (hel : ∀ (i : Nat) (x : α) (y : β), l[i]? = some x → ls[i]? = some y → AHL hg (f x) (g y)) : AH hg (.sl z sz f d l) (.sl 1 sz g d' ls) := fun E E0 H w v hr hh hc hv => by
 simp only [rep] at hv ⊢
 obtain ⟨a, n, c, h1, h2, h3, h4, h5, h6⟩ := hv
 refine ⟨a, n, c, h1, by omega, h3, h4, h5, fun i y hy => ?_⟩
 have hi := (List.getElem?_eq_some_iff.1 hy).1
 obtain ⟨b, o, cs, g1, g2, g3, g4, g5⟩ := h6 i l[i] (List.getElem?_eq_getElem (by omega))
 exact ⟨b, o, cs, g1, hc.one b (hr.zlt z b g2), g3, hel i _ y (List.getElem?_eq_getElem (by omega)) hy E E0 H w cs hr hh hc g4, g5⟩
end
section
variable {P : Program}
/-! rows that a function has made become the zone 0 -/
def getM : List (Nat × Ent) → Nat → Option Ent
 | [], _ => none
 | (q, e) :: l, r => if Nat.beq q r then some e else getM l r
theorem getM_all {H : List Ent} : ∀ {mk : List (Nat × Ent)}, allM H mk → ∀ {r : Nat} {e : Ent}, getM mk r = some e → H[r]? = some e
 | [], _, r, e, h => by simp [getM] at h
 | (q, e0) :: mk, ha, r, e, h => by
  simp only [allM] at ha
  simp only [getM] at h
  split at h
  ·rename_i hq
   obtain rfl := Nat.eq_of_beq_eq_true hq
   cases h
   rw [← getL_eq]; exact ha.1
  ·exact getM_all ha.2 h
theorem getM_ids : ∀ {mk : List (Nat × Ent)} {r : Nat} {e : Ent}, getM mk r = some e → r ∈ idsM mk
 | [], r, e, h => by simp [getM] at h
 | (q, e0) :: mk, r, e, h => by
  simp only [getM] at h
  simp only [idsM, List.mem_cons]
  split at h
  ·rename_i hq
   exact .inl (Nat.eq_of_beq_eq_true hq).symm
  ·exact .inr (getM_ids h)
structure Fz (mk : List (Nat × Ent)) (E E' : Env) (w : World) : Prop where
 ext : Ext E E' w w
 fz : ∀ (r : Nat) (e : Ent) (b : Nat), getM mk r = some e → Blk E r e b → E'.zone 0 b
def AF (mk : List (Nat × Ent)) (x y : AV) : Prop := ∀ (E E' : Env) (H : List Ent) (w : World) (v : Value), HR E w H → allM H mk → Fz mk E E' w → rep E w x v → rep E' w y v
def AFL (mk : List (Nat × Ent)) (xs ys : List AV) : Prop := ∀ (E E' : Env) (H : List Ent) (w : World) (vs : List Value), HR E w H → allM H mk → Fz mk E E' w → reps E w xs vs → reps E' w ys vs
section
variable {mk : List (Nat × Ent)}
theorem AFL.nil : AFL mk [] [] := fun E E' H w vs _ _ _ h => by simp only [reps] at h ⊢; exact h
theorem AFL.cons {x y : AV} {xs ys : List AV} (h : AF mk x y) (k : AFL mk xs ys) : AFL mk (x :: xs) (y :: ys) := fun E E' H w vs hr hh hc hv => by
 simp only [reps] at hv ⊢
 obtain ⟨v, vs', h1, h2, h3⟩ := hv
 exact ⟨v, vs', h1, h E E' H w v hr hh hc h2, k E E' H w vs' hr hh hc h3⟩
theorem AF.same {x : AV} : AF mk x x := fun E E' H w v _ _ hf h => rep_ext hf.ext x v h
theorem AF.any {x : AV} : AF mk x .any := fun E E' H w v _ _ _ _ => by simp only [rep]
theorem AF.agg {xs ys : List AV} (h : AFL mk xs ys) : AF mk (.agg xs) (.agg ys) := fun E E' H w v hr hh hc hv => by
 simp only [rep] at hv ⊢
 obtain ⟨cs, h1, h2⟩ := hv
 exact ⟨cs, h1, h E E' H w cs hr hh hc h2⟩
theorem AF.tup {xs ys : List AV} (h : AFL mk xs ys) : AF mk (.tup xs) (.tup ys) := fun E E' H w v hr hh hc hv => by
 simp only [rep] at hv ⊢
 obtain ⟨cs, h1, h2⟩ := hv
 exact ⟨cs, h1, h E E' H w cs hr hh hc h2⟩
theorem AF.nil : AF mk (.val (.slice none 0 0)) (.bs 0 []) := fun E E' H w v hr hh hc hv => by
 simp only [rep] at hv ⊢
 exact ⟨none, 0, 0, hv, rfl, Nat.le_refl _, Nat.zero_le _, fun _ => rfl, fun i x hx => by simp at hx⟩
theorem AF.ownP {r ver off n : Nat} {l : List UInt8} (he : getM mk r = some ⟨ver, .bytes l⟩) (hle : off + n ≤ l.length) : AF mk (.own r ver 1 off n) (.bs 0 ((l.drop off).take n)) := fun E E' H w v hr hh hc hv =>
 cv_bs hr (getM_all hh he) hle hv fun b hb => hc.fz r _ b he hb
theorem AF.own {r ver n : Nat} {l : List UInt8} (he : getM mk r = some ⟨ver, .bytes l⟩) (hn : n = l.length) : AF mk (.own r ver 1 0 n) (.bs 0 l) := by
 subst hn
 have h := AF.ownP (off := 0) (n := l.length) he (by omega)
 rw [List.drop_zero, List.take_length] at h
 exact h
theorem AF.plP {r ver i off n : Nat} {ls : List (List UInt8)} {l : List UInt8} (he : getM mk r = some ⟨ver, .pool ls⟩) (hl : ls[i]? = some l) (hle : off + n ≤ l.length) : AF mk (.pl r ver i off n) (.bs 0 ((l.drop off).take n)) := fun E E' H w v hr hh hc hv =>
 cv_pl hr (getM_all hh he) hl hle hv fun b hb => hc.fz r _ b he hb
theorem AF.pl {r ver i n : Nat} {ls : List (List UInt8)} {l : List UInt8} (he : getM mk r = some ⟨ver, .pool ls⟩) (hl : ls[i]? = some l) (hn : n = l.length) : AF mk (.pl r ver i 0 n) (.bs 0 l) := by
 subst hn
 have h := AF.plP (off := 0) (n := l.length) he hl (by omega)
 rw [List.drop_zero, List.take_length] at h
 exact h
theorem AF.cp {r ver sz j : Nat} {cells cells' : List AV} (he : getM mk r = some ⟨ver, .obj cells⟩) (hc : AFL mk cells cells') : AF mk (.ref r ver sz 0 j) (.cp 0 cells' j) := fun E E' H w v hr hh hf hv =>
 cv_cp hr (getM_all hh he) (fun ha => by have := hr.abs r _ (getM_all hh he) ha; cases this) (fun cs h => hc E E' H w cs hr hh hf h) hv fun b hb => hf.fz r _ b he hb
def BF (mk : List (Nat × Ent)) (b b' : Bd) : Prop := b'.live = b.live ∧ b'.isP = b.isP ∧ b'.count = b.count ∧ (∀ ls, b' = .pool ls → b = .pool ls) ∧
 ∀ (E E' : Env) (H : List Ent) (w : World) (k : Nat), HR E w H → allM H mk → Fz mk E E' w → EntRep E w k b → EntRep E' w k b'
theorem BF.same {b : Bd} : BF mk b b := ⟨rfl, rfl, rfl, fun _ h => h, fun E E' H w k _ _ hf h => h.ext hf.ext rfl⟩
theorem BF.obj {l l' : List AV} (hl : l'.length = l.length) (h : AFL mk l l') : BF mk (.obj l) (.obj l') := by
 refine ⟨rfl, rfl, rfl, (by rintro _ ⟨⟩), fun E E' H w k hr hh hf he => ⟨fun _ => ?_, by rintro _ _ _ ⟨⟩⟩⟩
 obtain ⟨cur, T, lo, hi, h1, h2, h3, h4⟩ := he.blk rfl
 refine ⟨cur, T, lo, hi, h1, h2, by simp only [Bd.count, Bd.sz, hl] at h3 ⊢; exact h3, fun i ys hy => ?_⟩
 simp only [Bd.at] at hy
 split at hy
 ·rename_i hi0
  cases hy
  obtain ⟨cs, k1, k2, k3⟩ := h4 i l (by simp [Bd.at, hi0])
  simp only [Bd.sz, hl] at k1 k3 ⊢
  exact ⟨cs, k1, h E E' H w cs hr hh hf k2, k3⟩
 ·cases hy
theorem BF.row {sz : Nat} {α β : Type} {f : α → List AV} {d : α} {l : List α} {g : β → List AV} {d' : β} {ls : List β} (hl : ls.length = l.length)
    (hel : ∀ (i : Nat) (x : α) (y : β), l[i]? = some x → ls[i]? = some y → AFL mk (f x) (g y)) : BF mk (.row sz f d l) (.row sz g d' ls) := by
 refine ⟨rfl, rfl, hl, (by rintro _ ⟨⟩), fun E E' H w k hr hh hf he => ⟨fun _ => ?_, by rintro _ _ _ ⟨⟩⟩⟩
 obtain ⟨cur, T, lo, hi, h1, h2, h3, h4⟩ := he.blk rfl
 refine ⟨cur, T, lo, hi, h1, h2, by simp only [Bd.count, Bd.sz, hl] at h3 ⊢; exact h3, fun i ys hy => ?_⟩
 simp only [Bd.at] at hy
 obtain ⟨y, hy', rfl⟩ := Option.map_eq_some_iff.1 hy
 have hi0 : i < l.length := by have := (List.getElem?_eq_some_iff.1 hy').1; omega
 obtain ⟨cs, k1, k2, k3⟩ := h4 i (f l[i]) (by simp only [Bd.at]; rw [List.getElem?_eq_getElem hi0]; rfl)
 exact ⟨cs, k1, hel i _ y (List.getElem?_eq_getElem hi0) hy' E E' H w cs hr hh hf k2, k3⟩
def BFL (mk : List (Nat × Ent)) : List Ent → List Ent → Prop
 | [], [] => True
 | e :: l, e' :: l' => e'.ver = e.ver ∧ BF mk e.bd e'.bd ∧ BFL mk l l'
 | _, _ => False
theorem BFL.get : ∀ {l l' : List Ent}, BFL mk l l' → l'.length = l.length ∧ ∀ (r : Nat) (e' : Ent), l'[r]? = some e' → ∃ e, l[r]? = some e ∧ e'.ver = e.ver ∧ BF mk e.bd e'.bd
 | [], [], _ => ⟨rfl, fun r e' h => by simp at h⟩
 | e :: l, e' :: l', h => by
  simp only [BFL] at h
  obtain ⟨h1, h2, h3⟩ := h
  obtain ⟨g1, g2⟩ := BFL.get h3
  refine ⟨by simp [g1], fun r x hx => ?_⟩
  cases r with
  | zero => simp only [List.getElem?_cons_zero, Option.some.injEq] at hx; subst hx; exact ⟨e, rfl, h1, h2⟩
  | succ r => simpa using g2 r x (by simpa using hx)
 | [], _ :: _, h => by simp only [BFL] at h
 | _ :: _, [], h => by simp only [BFL] at h
end
theorem spec_frz {f : FuncId} {args : List AV} {H0 : List Ent} {X X' : AV} {rows rows' : List Ent} {mk : List (Nat × Ent)} (S : Spec P f args H0 (pms X rows mk)) (hge : geM rows.length mk) (hX : AF mk X X') (hR : BFL mk rows rows') : Spec P f args H0 (pms X' rows' []) := by
 intro w E cargs hr hargs
 refine Calls.mono (S w E cargs hr hargs) fun e w' ⟨v, x, H1, E1, he, hpo, hv, hr1, X1, hz1, hlen1, hrows1, hfr⟩ => ?_
 obtain ⟨tl, rfl, rfl, hal⟩ := hpo
 obtain ⟨hlen, hget⟩ := hR.get
 have hmk : ∀ {q : Nat} {e : Ent}, getM mk q = some e → (rows ++ tl)[q]? = some e ∧ rows.length ≤ q := fun {q e} h => ⟨getM_all hal h, geM_get hge q (getM_ids h)⟩
 obtain ⟨E', hE'⟩ : ∃ E' : Env, E' = { E1 with zone := fun z b => E1.zone z b ∨ (z = 0 ∧ ∃ q e, getM mk q = some e ∧ Blk E1 q e b) } := ⟨_, rfl⟩
 have Xt : Ext E1 E' w' w' := by
  subst hE'
  exact ⟨fun _ => Nat.le_refl _, fun _ _ => rfl, fun _ _ => Iff.rfl, fun z b h => .inl h, fun _ _ _ => rfl, fun k cur T fz h => ⟨cur, T, fz, h, Nat.le_refl _⟩, fun _ _ _ _ h => h⟩
 have F : Fz mk E1 E' w' := ⟨Xt, fun r e b h hb => by subst hE'; exact .inr ⟨rfl, r, e, h, hb⟩⟩
 obtain ⟨H', hH'⟩ : ∃ H' : List Ent, H' = rows' ++ tl.map fun e => ⟨e.ver, .dead⟩ := ⟨_, rfl⟩
 have get : ∀ (r : Nat) (e : Ent), H'[r]? = some e → ∃ e0 : Ent, (rows ++ tl)[r]? = some e0 ∧ e.ver = e0.ver ∧ ((r < rows.length ∧ BF mk e0.bd e.bd) ∨ e = ⟨e0.ver, .dead⟩) := by
  intro r e h
  rw [hH', List.getElem?_append] at h
  split at h
  ·rename_i hlt
   obtain ⟨e0, h1, h2, h3⟩ := hget r e h
   exact ⟨e0, by rw [List.getElem?_append_left (by omega)]; exact h1, h2, .inl ⟨by omega, h3⟩⟩
  ·rename_i hge'
   rw [List.getElem?_map, Option.map_eq_some_iff] at h
   obtain ⟨e0, h1, rfl⟩ := h
   exact ⟨e0, by rw [List.getElem?_append_right (by omega), ← hlen]; exact h1, rfl, .inr rfl⟩
 have hblk : ∀ (r : Nat) (e : Ent) (b : Nat), H'[r]? = some e → Blk E' r e b → ∃ e0 : Ent, (rows ++ tl)[r]? = some e0 ∧ Blk E1 r e0 b ∧ r < rows.length ∧ BF mk e0.bd e.bd := by
  intro r e b h hb
  obtain ⟨e0, h1, h2, h3⟩ := get r e h
  rcases h3 with ⟨h4, h3⟩ | rfl
  ·refine ⟨e0, h1, ?_, h4, h3⟩
   obtain ⟨g1, g2, _⟩ := h3
   rcases hb with ⟨⟨q1, q2⟩, q3⟩ | ⟨q1, i, q2⟩
   ·exact .inl ⟨⟨g1 ▸ q1, by subst hE'; exact q2⟩, by subst hE'; exact q3⟩
   ·exact .inr ⟨g2 ▸ q1, i, by subst hE'; exact q2⟩
  ·exact absurd hb Blk.dead
 have hsame : ∀ (r r' : Nat) (e e' : Ent) (b : Nat), (rows ++ tl)[r]? = some e → (rows ++ tl)[r']? = some e' → Blk E1 r e b → Blk E1 r' e' b → r = r' := hr1.inj
 refine ⟨v, X', H', E', he, ⟨tl.map fun e => ⟨e.ver, .dead⟩, rfl, hH', trivial⟩, hX E1 E' _ w' v hr1 hal F hv, ?_, X1.trans Xt, fun z b h => ?_, ?_, fun r e b h hb => ?_, ?_⟩
 ·refine ⟨fun r e h => ?_, fun r e h hl => ?_, fun r e h ha => ?_, fun r r' e e' b h h' hl hl' => ?_, fun z b h => ?_, fun r e b h hl z hzb => ?_, fun r h => ?_, hr1.gl.ext Xt, fun r u ls h => ?_⟩
  ·obtain ⟨e0, h1, h2, _⟩ := get r e h
   rw [h2, ← hr1.ver r e0 h1]; subst hE'; rfl
  ·obtain ⟨e0, h1, h2, h3⟩ := get r e h
   rcases h3 with ⟨h4, g1, g2, g3, g4, g5⟩ | rfl
   ·have hl0 : Liv E1 r e0 := ⟨g1 ▸ hl.1, by have := hl.2; subst hE'; exact this⟩
    have := g5 E1 E' _ w' _ hr1 hal F (hr1.ent r e0 h1 hl0)
    rw [show E'.ρ r = E1.ρ r by subst hE'; rfl]; exact this
   ·cases hl.1
  ·obtain ⟨e0, h1, h2, h3⟩ := get r e h
   rcases h3 with ⟨h4, g1, g2, g3, g4, g5⟩ | rfl
   ·rw [g3]; exact hr1.abs r e0 h1 (by subst hE'; exact ha)
   ·rfl
  ·obtain ⟨e0, h1, h2, _⟩ := hblk r e b h hl
   obtain ⟨e1, h3, h4, _⟩ := hblk r' e' b h' hl'
   exact hsame r r' e0 e1 b h1 h3 h2 h4
  ·subst hE'
   rcases h with h | ⟨rfl, q, e, h1, h2⟩
   ·exact hr1.zlt z b h
   ·exact hr1.blt (hmk h1).1 h2
  ·obtain ⟨e0, h1, h2, h3, _⟩ := hblk r e b h hl
   have h0 := hr1.zrow r e0 b h1 h2
   subst hE'
   rcases hzb with hzb | ⟨rfl, q, e, g1, g2⟩
   ·exact h0 z hzb
   ·have := hsame r q e0 e b h1 (hmk g1).1 h2 g2
    have := (hmk g1).2
    omega
  ·have := hr1.top r (by rw [hH'] at h; simp only [List.length_append, List.length_map] at h ⊢; omega)
   subst hE'; exact this
  ·obtain ⟨e0, h1, h2, h3⟩ := get r _ h
   rcases h3 with ⟨h4, g1, g2, g3, g4, g5⟩ | h3
   ·have e1 := g4 ls rfl
    have := hr1.pool r e0.ver ls (by rw [h1, ← e1])
    subst hE'; exact this
   ·cases h3
 ·subst hE'
  rcases h with h | ⟨rfl, q, e, g1, g2⟩
  ·exact hz1 z b h
  ·exact .inr (hrows1 q e b (hmk g1).1 g2)
 ·rw [hH']; simp only [List.length_append, List.length_map] at hlen1 ⊢; omega
 ·obtain ⟨e0, h1, h2, _⟩ := hblk r e b h hb
  exact hrows1 r e0 b h1 h2
 ·refine ⟨hfr.os, hfr.tape, hfr.output, hfr.size, hfr.block, hfr.grow, fun r e b h hb => ?_⟩
  obtain ⟨e0, h1, h2, _⟩ := hblk r e b h hb
  exact hfr.rows r e0 b h1 h2
end
end Go.Proofs.YtmjpbmcbcppkfaaGreatDoor
namespace Go.Proofs.YtmjpbmcbcppkfaaGreatDoor
open Go.RowKit
set_option linter.unusedVariables false
set_option linter.unusedSimpArgs false
end Go.Proofs.YtmjpbmcbcppkfaaGreatDoor
namespace Go.Proofs.YtmjpbmcbcppkfaaGreatDoor
open Go.RowKit
set_option linter.unusedVariables false
set_option linter.unusedSimpArgs false
end Go.Proofs.YtmjpbmcbcppkfaaGreatDoor
namespace Go.Proofs.YtmjpbmcbcppkfaaGreatDoor
open Go.RowKit
set_option linter.unusedVariables false
set_option linter.unusedSimpArgs false
theorem Out.frz {E : Env} {w : World} {H : List Ent} (hR : HR E w H) {r : Nat} {er : Ent} (hr : H[r]? = some er) : ∃ E', Out E E' w w H [(r, ⟨er.ver, .dead⟩)] ∧ Fz [(r, er)] E E' w := by
 obtain ⟨E', hE'⟩ : ∃ E' : Env, E' = { E with zone := fun z b => E.zone z b ∨ (z = 0 ∧ Blk E r er b) } := ⟨_, rfl⟩
 have X : Ext E E' w w := by
  subst hE'
  exact ⟨fun _ => Nat.le_refl _, fun _ _ => rfl, fun _ _ => Iff.rfl, fun z b h => .inl h, fun _ _ _ => rfl, fun k cur T fz h => ⟨cur, T, fz, h, Nat.le_refl _⟩, fun _ _ _ _ h => h⟩
 have F : Fz [(r, er)] E E' w := ⟨X, fun q' e b h hb => by
  unfold getM at h
  split at h
  ·rename_i hq'
   obtain rfl := Nat.eq_of_beq_eq_true hq'
   obtain rfl := Option.some.inj h
   subst hE'; exact .inr ⟨rfl, hb⟩
  ·cases h⟩
 have hget : ∀ (k : Nat) (e' : Ent), (updH H [(r, ⟨er.ver, .dead⟩)])[k]? = some e' → (k = r ∧ e' = ⟨er.ver, .dead⟩) ∨ (k ≠ r ∧ H[k]? = some e') := by
  intro k e' h
  have h2 : (setL H r ⟨er.ver, .dead⟩)[k]? = some e' := h
  rw [setL_eq, List.getElem?_set] at h2
  by_cases h1 : r = k
  ·subst h1
   rw [if_pos rfl, if_pos (List.getElem?_eq_some_iff.1 hr).1] at h2
   exact .inl ⟨rfl, (Option.some.inj h2).symm⟩
  ·rw [if_neg h1] at h2
   exact .inr ⟨Ne.symm h1, h2⟩
 have hblk : ∀ (k : Nat) (e' : Ent) (b : Nat), (updH H [(r, ⟨er.ver, .dead⟩)])[k]? = some e' → Blk E' k e' b → k ≠ r ∧ H[k]? = some e' ∧ Blk E k e' b := by
  intro k e' b h hbk
  rcases hget k e' h with ⟨rfl, rfl⟩ | ⟨q1, q3⟩
  ·exact absurd hbk Blk.dead
  ·refine ⟨q1, q3, ?_⟩
   rcases hbk with ⟨⟨h1, h2⟩, h3⟩ | ⟨h1, i, h2⟩
   ·exact .inl ⟨⟨h1, by subst hE'; exact h2⟩, by subst hE'; exact h3⟩
   ·exact .inr ⟨h1, i, by subst hE'; exact h2⟩
 have hlen : (updH H [(r, ⟨er.ver, .dead⟩)]).length = H.length := by
  show (setL H r ⟨er.ver, .dead⟩).length = _
  rw [setL_eq, List.length_set]
 refine ⟨E', ⟨X, ⟨fun k e' h => ?_, fun k e' h hl => ?_, fun k e' h ha => ?_, fun k k' e1 e2 b h h' hl hl' => ?_, fun z b h => ?_, fun k e' b h hl z hz => ?_, fun k h => ?_, hR.gl.ext X, fun k u ls h => ?_⟩, rfl, rfl, rfl, Nat.le_refl _, fun z b h => ?_, fun _ cur T fz h => ⟨cur, T, fz, h, Nat.le_refl _⟩, fun _ _ _ => rfl, fun k e' b h hl => ?_⟩, F⟩
 ·have hv : E'.ver k = E.ver k := by subst hE'; rfl
  rw [hv]
  rcases hget k e' h with ⟨rfl, rfl⟩ | ⟨q1, q3⟩
  ·exact hR.ver _ er hr
  ·exact hR.ver k e' q3
 ·have hρ : E'.ρ k = E.ρ k := by subst hE'; rfl
  have hab : ¬ E.abs k := by have := hl.2; subst hE'; exact this
  rw [hρ]
  rcases hget k e' h with ⟨rfl, rfl⟩ | ⟨q1, q3⟩
  ·cases hl.1
  ·exact (hR.ent k e' q3 ⟨hl.1, hab⟩).ext X rfl
 ·have ha' : E.abs k := by subst hE'; exact ha
  rcases hget k e' h with ⟨rfl, rfl⟩ | ⟨q1, q3⟩
  ·rfl
  ·exact hR.abs k e' q3 ha'
 ·obtain ⟨_, a2, a3⟩ := hblk k e1 b h hl
  obtain ⟨_, b2, b3⟩ := hblk k' e2 b h' hl'
  exact hR.inj k k' e1 e2 b a2 b2 a3 b3
 ·subst hE'
  rcases h with h | ⟨rfl, h⟩
  ·exact hR.zlt z b h
  ·exact hR.blt hr h
 ·obtain ⟨hk, a2, a3⟩ := hblk k e' b h hl
  have h0 := hR.zrow k e' b a2 a3
  subst hE'
  rcases hz with hz | ⟨rfl, hz⟩
  ·exact h0 z hz
  ·exact hk (hR.inj k r e' er b a2 hr a3 hz)
 ·have := hR.top k (by rw [hlen] at h; exact h)
  subst hE'; exact this
 ·rcases hget k _ h with ⟨_, h2⟩ | ⟨_, h2⟩
  ·cases h2
  ·have := hR.pool k u ls h2
   subst hE'; exact this
 ·subst hE'
  rcases h with h | ⟨rfl, h⟩
  ·exact .inl h
  ·exact .inr (.inr ⟨r, er, hr, h⟩)
 ·obtain ⟨_, a2, a3⟩ := hblk k e' b h hl
  exact .inr ⟨k, e', a2, a3, .inl rfl⟩
def frzG (hg : Nat → Option Ent) (r : Nat) (v : Nat) (q : Nat) : Option Ent := match Nat.beq q r with
 | true => some ⟨v, .dead⟩
 | false => hg q
theorem callK_frz {P : Program} {f : FuncId} {args args' : List AV} {hg : Nat → Option Ent} {K : AV → List (Nat × Ent) → Prop} (r : Nat) {er : Ent} (he : hg r = some er) (ha : AFL [(r, er)] args args')
    (h : callK P (.clo f []) args' (frzG hg r er.ver) fun v us => K v ((r, ⟨er.ver, .dead⟩) :: us)) : callK P (.clo f []) args hg K := by
 unfold callK at h ⊢
 obtain ⟨f', caps, hf, post, S, hK⟩ := h
 injection hf with hf1 hf2
 subst hf1; subst hf2
 refine ⟨f, [], rfl, K, fun E H w cargs hr hh hargs => ?_, fun _ _ h => h⟩
 have hH := hh r er he
 obtain ⟨E1, O1, F⟩ := Out.frz hr hH
 rw [List.append_nil] at hargs
 have hargs' := ha E E1 H w cargs hr ⟨by rw [getL_eq]; exact hH, trivial⟩ F hargs
 have hg1 : ∀ (q : Nat) (e : Ent), frzG hg r er.ver q = some e → (updH H [(r, ⟨er.ver, .dead⟩)])[q]? = some e := by
  intro q e h
  show (setL H r ⟨er.ver, .dead⟩)[q]? = some e
  rw [setL_eq, List.getElem?_set]
  unfold frzG at h
  split at h <;> rename_i hb
  ·obtain rfl := Nat.eq_of_beq_eq_true hb
   rw [if_pos rfl, if_pos (List.getElem?_eq_some_iff.1 hH).1]; exact h
  ·rw [if_neg (by rintro rfl; rw [Nat.beq_refl] at hb; cases hb)]
   exact hh q e h
 rw [List.append_nil] at S
 refine (S E1 _ w cargs O1.hr hg1 hargs').mono fun v w' ⟨y, us, E', hp, hv, O⟩ => ?_
 exact ⟨_, _, E', hK y us hp, hv, O1.trans O⟩
end Go.Proofs.YtmjpbmcbcppkfaaGreatDoor
