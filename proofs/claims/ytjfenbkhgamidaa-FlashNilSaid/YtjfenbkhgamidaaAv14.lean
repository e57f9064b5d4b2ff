/- Abstract values: a call by what its function comes to. Conditions: the premises of each. -/
import Derived.Test.YtjfenbkhgamidaaAv13
namespace Go.Proofs.Ytjfenbkhgamidaa
open Go.RowKit
set_option linter.unusedVariables false
/-- other names for the rows -/
structure Ren where
  σ : Nat → Nat
  δ : Nat → Nat
mutual
def renA (R : Ren) : AV → AV
  | .any => .any
  | .val v => .val v
  | .agg l => .agg (renAs R l)
  | .tup l => .tup (renAs R l)
  | .bs z l => .bs z l
  | .sl z sz f d l => .sl z sz (fun a => renAs R (f a)) d l
  | .own r ver sz off n => .own (R.σ r) (ver + R.δ r) sz off n
  | .ref r ver sz i j => .ref (R.σ r) (ver + R.δ r) sz i j
  | .cp z cells j => .cp z (renAs R cells) j
  | .clo f caps => .clo f (renAs R caps)
  | .gd φ x => .gd φ (renA R x)
def renAs (R : Ren) : List AV → List AV
  | [] => []
  | x :: xs => renA R x :: renAs R xs
end
mutual
/-- only these rows are named -/
def onA (D : Nat → Prop) : AV → Prop
  | .any => True
  | .val v => True
  | .agg l => onAs D l
  | .tup l => onAs D l
  | .bs z l => True
  | .sl z sz f d l => ∀ a, onAs D (f a)
  | .own r ver sz off n => D r
  | .ref r ver sz i j => D r
  | .cp z cells j => onAs D cells
  | .clo f caps => onAs D caps
  | .gd φ x => onA D x
def onAs (D : Nat → Prop) : List AV → Prop
  | [] => True
  | x :: xs => onA D x ∧ onAs D xs
end
/-- the rows of one stand for those of the other -/
structure Com (D : Nat → Prop) (R : Ren) (E Ec : Env) : Prop where
  ver : ∀ r, D r → Ec.ver (R.σ r) = E.ver r + R.δ r
  rho : ∀ r, D r → Ec.ρ (R.σ r) = E.ρ r
  abs : ∀ r, D r → (Ec.abs (R.σ r) ↔ E.abs r)
  zone : ∀ z b, Ec.zone z b ↔ E.zone z b
theorem renAs_len (R : Ren) : ∀ (xs : List AV), (renAs R xs).length = xs.length
  | [] => by simp [renAs]
  | x :: xs => by simp [renAs, renAs_len R xs]
mutual
theorem rep_ren {D : Nat → Prop} {R : Ren} {E Ec : Env} {w : World} (C : Com D R E Ec) : ∀ (x : AV) (v : Value), onA D x → (rep E w x v ↔ rep Ec w (renA R x) v)
  | .any, v, _ => by simp only [renA, rep]
  | .val u, v, _ => by simp only [renA, rep]
  | .agg l, v, h => by
    simp only [renA, rep]
    rw [onA] at h
    exact exists_congr fun cs => and_congr_right fun _ => reps_ren C l cs h
  | .tup l, v, h => by
    simp only [renA, rep]
    rw [onA] at h
    exact exists_congr fun cs => and_congr_right fun _ => reps_ren C l cs h
  | .bs z l, v, _ => by simp only [renA, rep, C.zone]
  | .sl z sz f d l, v, h => by
    simp only [renA, rep, C.zone]
    rw [onA] at h
    refine exists_congr fun a => exists_congr fun n => exists_congr fun c => and_congr_right fun _ => and_congr_right fun _ => and_congr_right fun _ => and_congr_right fun _ => and_congr_right fun _ => ?_
    refine forall_congr' fun i => forall_congr' fun x => forall_congr' fun hx => exists_congr fun b => exists_congr fun o => exists_congr fun cs => and_congr_right fun _ => and_congr_right fun _ => and_congr_right fun _ => ?_
    exact and_congr_left fun _ => reps_ren C (f x) cs (h x)
  | .own r ver sz off n, v, h => by
    simp only [renA, rep]
    rw [onA] at h
    rw [C.ver r h, C.rho r h]
    have e1 : (ver + R.δ r ≤ E.ver r + R.δ r) ↔ ver ≤ E.ver r := by omega
    have e2 : (ver + R.δ r = E.ver r + R.δ r) ↔ ver = E.ver r := by omega
    rw [e1, e2]
    have e3 : (¬ Ec.abs (R.σ r)) ↔ ¬ E.abs r := not_congr (C.abs r h)
    simp only [e3]
  | .ref r ver sz i j, v, h => by
    simp only [renA, rep]
    rw [onA] at h
    rw [C.ver r h, C.rho r h]
    have e1 : (ver + R.δ r ≤ E.ver r + R.δ r) ↔ ver ≤ E.ver r := by omega
    have e2 : (ver + R.δ r = E.ver r + R.δ r) ↔ ver = E.ver r := by omega
    rw [e1, e2]
  | .cp z cells j, v, h => by
    simp only [renA, rep, C.zone]
    rw [onA] at h
    exact exists_congr fun b => exists_congr fun o => exists_congr fun cs => and_congr_right fun _ => and_congr_right fun _ => and_congr_left fun _ => reps_ren C cells cs h
  | .clo f caps, v, h => by
    simp only [renA, rep]
    rw [onA] at h
    exact exists_congr fun cs => and_congr_right fun _ => reps_ren C caps cs h
  | .gd φ x, v, h => by
    simp only [renA, rep]
    rw [onA] at h
    exact and_congr_left fun _ => forall_congr' fun _ => rep_ren C x v h
theorem reps_ren {D : Nat → Prop} {R : Ren} {E Ec : Env} {w : World} (C : Com D R E Ec) : ∀ (xs : List AV) (vs : List Value), onAs D xs → (reps E w xs vs ↔ reps Ec w (renAs R xs) vs)
  | [], vs, _ => by simp only [renAs, reps]
  | x :: xs, vs, h => by
    simp only [renAs, reps]
    rw [onAs] at h
    exact exists_congr fun v => exists_congr fun vs' => and_congr_right fun _ => and_congr (rep_ren C x v h.1) (reps_ren C xs vs' h.2)
end
def renB (R : Ren) : Bd → Bd
  | .dead => .dead
  | .bytes l => .bytes l
  | .row sz f d l => .row sz (fun a => renAs R (f a)) d l
  | .obj l => .obj (renAs R l)
def onB (D : Nat → Prop) : Bd → Prop
  | .dead => True
  | .bytes _ => True
  | .row _ f _ _ => ∀ a, onAs D (f a)
  | .obj l => onAs D l
theorem renB_at {R : Ren} {b : Bd} {i : Nat} : (renB R b).at i = (b.at i).map (renAs R) := by
  cases b with
  | dead => rfl
  | bytes l => simp only [renB, Bd.at, Option.map_map, Function.comp_def, renAs, renA]
  | row sz f d l => simp only [renB, Bd.at, Option.map_map, Function.comp_def]
  | obj l => simp only [renB, Bd.at]; split <;> rfl
theorem renB_sz {R : Ren} {b : Bd} : (renB R b).sz = b.sz ∧ (renB R b).count = b.count ∧ (renB R b).live = b.live := by
  cases b <;> simp [renB, Bd.sz, Bd.count, Bd.live, renAs_len]
theorem onB_at {D : Nat → Prop} {b : Bd} (h : onB D b) {i : Nat} {ys : List AV} (hy : b.at i = some ys) : onAs D ys := by
  cases b with
  | dead => simp [Bd.at] at hy
  | bytes l =>
    simp only [Bd.at, Option.map_eq_some_iff] at hy
    obtain ⟨x, _, rfl⟩ := hy
    simp [onAs, onA]
  | row sz f d l =>
    simp only [Bd.at, Option.map_eq_some_iff] at hy
    obtain ⟨x, _, rfl⟩ := hy
    exact h x
  | obj l =>
    simp only [Bd.at] at hy
    split at hy
    · cases hy; exact h
    · cases hy
theorem EntRep.ren {D : Nat → Prop} {R : Ren} {E Ec : Env} {w : World} (C : Com D R E Ec) {b : Nat} {bd : Bd} (hon : onB D bd) : EntRep E w b bd ↔ EntRep Ec w b (renB R bd) := by
  obtain ⟨e1, e2, e3⟩ := renB_sz (R := R) (b := bd)
  constructor
  · intro h
    refine ⟨fun hl => ?_⟩
    rw [e3] at hl
    obtain ⟨cur, T, lo, hi, h1, h2, h3, h4⟩ := h.blk hl
    refine ⟨cur, T, lo, hi, h1, h2, by rw [e1, e2]; exact h3, fun i ys hy => ?_⟩
    rw [renB_at, Option.map_eq_some_iff] at hy
    obtain ⟨ys0, hy0, rfl⟩ := hy
    obtain ⟨cs, h5, h6, h7⟩ := h4 i ys0 hy0
    exact ⟨cs, by rw [e1]; exact h5, (reps_ren C _ _ (onB_at hon hy0)).1 h6, by rw [e1]; exact h7⟩
  · intro h
    refine ⟨fun hl => ?_⟩
    obtain ⟨cur, T, lo, hi, h1, h2, h3, h4⟩ := h.blk (by rw [e3]; exact hl)
    refine ⟨cur, T, lo, hi, h1, h2, by rw [e1, e2] at h3; exact h3, fun i ys hy => ?_⟩
    obtain ⟨cs, h5, h6, h7⟩ := h4 i (renAs R ys) (by rw [renB_at, hy]; rfl)
    exact ⟨cs, by rw [e1] at h5; exact h5, (reps_ren C _ _ (onB_at hon hy)).2 h6, by rw [e1] at h7; exact h7⟩
/-! a call -/
def entOf (H : List Ent) (r : Nat) : Ent := match getL H r with
  | some e => e
  | none => ⟨0, .dead⟩
def usM (R : Ren) (H : List Ent) : List Nat → List (Nat × Ent)
  | [] => []
  | r :: rs => (R.σ r, ⟨(entOf H r).ver + R.δ r, renB R (entOf H r).bd⟩) :: usM R H rs
theorem updM_get {R : Ren} {H1 : List Ent} : ∀ {rs : List Nat} {H : List Ent}, rs.Nodup → (∀ a b, a ∈ rs → b ∈ rs → R.σ a = R.σ b → a = b) → (∀ a, a ∈ rs → R.σ a < H.length) →
    (updH H (usM R H1 rs)).length = H.length ∧ (∀ r, r ∈ rs → (updH H (usM R H1 rs))[R.σ r]? = some ⟨(entOf H1 r).ver + R.δ r, renB R (entOf H1 r).bd⟩) ∧ ∀ q, (∀ a, a ∈ rs → R.σ a ≠ q) → (updH H (usM R H1 rs))[q]? = H[q]?
  | [], H, _, _, _ => ⟨rfl, by simp, fun q _ => rfl⟩
  | r :: rs, H, hnd, hinj, hlt => by
    obtain ⟨hr, hnd'⟩ := List.nodup_cons.1 hnd
    simp only [usM, updH, setL_eq]
    obtain ⟨h1, h2, h3⟩ := updM_get (R := R) (H1 := H1) (rs := rs) (H := H.set (R.σ r) ⟨(entOf H1 r).ver + R.δ r, renB R (entOf H1 r).bd⟩) hnd' (fun a b ha hb => hinj a b (by simp [ha]) (by simp [hb])) (fun a ha => by rw [List.length_set]; exact hlt a (by simp [ha]))
    refine ⟨by rw [h1, List.length_set], fun k hk => ?_, fun q hq => ?_⟩
    · rcases List.mem_cons.1 hk with rfl | hk
      · rw [h3 _ (fun a ha he => hr (by rw [← hinj a k (by simp [ha]) (by simp) he]; exact ha))]
        exact List.getElem?_set_self (hlt k (by simp))
      · exact h2 k hk
    · rw [h3 q (fun a ha => hq a (by simp [ha]))]
      exact List.getElem?_set_ne (hq r (by simp))
theorem entOf_eq {H : List Ent} {r : Nat} (h : r < H.length) : H[r]? = some (entOf H r) := by
  unfold entOf
  rw [getL_eq, List.getElem?_eq_getElem h]
/-- A CALL, BY WHAT ITS FUNCTION COMES TO: the rows 0 .. p-1 of the function's are the caller's rows σ 0 .., and the rows of the list 'ad' that the function makes become the caller's rows of these names -/
theorem call_sem {P : Program} {f : FuncId} {args0 : List AV} {H0 : List Ent} {post : AV → List Ent → Prop} (S : Spec P f args0 H0 post) (hent : ∀ (as : Array Value) (w : World), (callFunc f as).run P w = .ok (.enter f as) w)
    (R : Ren) (rs : List Nat) (hnd : rs.Nodup) (hp : ∀ r, r < H0.length → r ∈ rs ∧ R.δ r = 0) (hinj : ∀ a b, a ∈ rs → b ∈ rs → R.σ a = R.σ b → a = b) {args : List AV} {hg : Nat → Option Ent}
    (hargs : args = renAs R args0) (hon : onAs (· < H0.length) args0) (hrows : ∀ r e, H0[r]? = some e → onB (· < H0.length) e.bd ∧ hg (R.σ r) = some ⟨e.ver, renB R e.bd⟩)
    (had : ∀ r, r ∈ rs → H0.length ≤ r → ∃ e, hg (R.σ r) = some e ∧ e.ver < R.δ r)
    (hpost : ∀ x H1, post x H1 → onA (· ∈ rs) x ∧ ∀ r, r ∈ rs → r < H1.length ∧ onB (· ∈ rs) (entOf H1 r).bd) :
    CallSem P f args hg fun x us => ∃ x0 H1, post x0 H1 ∧ x = renA R x0 ∧ us = usM R H1 rs := by
  intro E H w cargs hr hh hcargs
  refine .inl ⟨hent _ _, ?_⟩
  -- the rows as the function sees them
  obtain ⟨E0, hE0⟩ : ∃ E0 : Env, E0 = { ρ := fun r => E.ρ (R.σ r), ver := fun r => if r < H0.length then E.ver (R.σ r) else 0, zone := E.zone, abs := fun r => if r < H0.length then E.abs (R.σ r) else False } := ⟨_, rfl⟩
  have C0 : Com (· < H0.length) R E0 E := by
    subst hE0
    exact ⟨fun r h => by simp [h, (hp r h).2], fun r h => rfl, fun r h => by simp [h], fun z b => Iff.rfl⟩
  have hlt : ∀ r, r ∈ rs → R.σ r < H.length := by
    intro r hr'
    by_cases h : r < H0.length
    · exact (List.getElem?_eq_some_iff.1 (hh _ _ (hrows r _ (entOf_eq h)).2)).1
    · obtain ⟨e, he, _⟩ := had r hr' (by omega)
      exact (List.getElem?_eq_some_iff.1 (hh _ _ he)).1
  have hget0 : ∀ (r : Nat) (e : Ent), H0[r]? = some e → r < H0.length ∧ H[R.σ r]? = some ⟨e.ver, renB R e.bd⟩ := fun r e he => ⟨(List.getElem?_eq_some_iff.1 he).1, hh _ _ (hrows r e he).2⟩
  have hliv0 : ∀ (r : Nat) (e : Ent), H0[r]? = some e → (Liv E0 r e ↔ Liv E (R.σ r) ⟨e.ver, renB R e.bd⟩) := by
    intro r e he
    unfold Liv
    rw [(renB_sz (R := R) (b := e.bd)).2.2, C0.abs r (hget0 r e he).1]
  have hr0 : HR E0 w H0 := by
    refine ⟨fun r e he => ?_, fun r e he hl => ?_, fun r e he ha => ?_, fun r r' e e' he he' hl hl' hρ => ?_, ?_, fun r e he hl z hz => ?_, fun r hge => ?_⟩
    · have := C0.ver r (hget0 r e he).1
      rw [(hp r (hget0 r e he).1).2] at this
      have h2 := hr.ver _ _ (hget0 r e he).2
      simp only at h2; omega
    · have := hr.ent _ _ (hget0 r e he).2 ((hliv0 r e he).1 hl)
      rw [C0.rho r (hget0 r e he).1] at this
      exact (EntRep.ren C0 (hrows r e he).1).2 this
    · have := hr.abs _ _ (hget0 r e he).2 ((C0.abs r (hget0 r e he).1).2 ha)
      rwa [(renB_sz (R := R) (b := e.bd)).2.1] at this
    · rw [← C0.rho r (hget0 r e he).1, ← C0.rho r' (hget0 r' e' he').1] at hρ
      exact hinj r r' (hp r (hget0 r e he).1).1 (hp r' (hget0 r' e' he').1).1 (hr.inj _ _ _ _ (hget0 r e he).2 (hget0 r' e' he').2 ((hliv0 r e he).1 hl) ((hliv0 r' e' he').1 hl') hρ)
    · subst hE0; exact hr.zlt
    · rw [← C0.rho r (hget0 r e he).1] at hz
      exact hr.zrow _ _ (hget0 r e he).2 ((hliv0 r e he).1 hl) z ((C0.zone z _).2 hz)
    · subst hE0
      have : ¬ r < H0.length := by omega
      simp [this]
  have hargs0 : reps E0 w args0 cargs := (reps_ren C0 args0 cargs hon).2 (hargs ▸ hcargs)
  refine Calls.mono (S w E0 cargs hr0 hargs0) fun e w' ⟨v, x0, H1, E1, he, hpo, hv, hr1, X1, hz1, hlen1, hrows1, hfr⟩ => ?_
  obtain ⟨honx, honr⟩ := hpost x0 H1 hpo
  obtain ⟨hul, hug, hun⟩ := updM_get (R := R) (H1 := H1) (H := H) hnd hinj hlt
  -- the caller's addresses behind the call
  obtain ⟨inv, hinv⟩ : ∃ inv : Nat → Option Nat, ∀ q, (∀ r, inv q = some r → r ∈ rs ∧ R.σ r = q) ∧ (inv q = none → ∀ r, r ∈ rs → R.σ r ≠ q) := by
    refine ⟨fun q => rs.find? (fun r => R.σ r == q), fun q => ⟨fun r h => ?_, fun h r hr' he => ?_⟩⟩
    · exact ⟨List.mem_of_find?_eq_some h, by simpa using List.find?_some h⟩
    · have := List.find?_eq_none.1 h r hr'
      simp [he] at this
  have hinvσ : ∀ r, r ∈ rs → inv (R.σ r) = some r := by
    intro r hr'
    cases hq : inv (R.σ r) with
    | none => exact absurd rfl ((hinv _).2 hq r hr')
    | some r' =>
      obtain ⟨h1, h2⟩ := (hinv _).1 r' hq
      rw [hinj r' r h1 hr' h2]
  obtain ⟨E', hE'⟩ : ∃ E' : Env, E' = { ρ := fun q => match inv q with | some r => E1.ρ r | none => E.ρ q, ver := fun q => match inv q with | some r => E1.ver r + R.δ r | none => E.ver q, zone := E1.zone, abs := fun q => match inv q with | some r => E1.abs r | none => E.abs q } := ⟨_, rfl⟩
  have C1 : Com (· ∈ rs) R E1 E' := by
    subst hE'
    exact ⟨fun r h => by simp [hinvσ r h], fun r h => by simp [hinvσ r h], fun r h => by simp [hinvσ r h], fun z b => Iff.rfl⟩
  have hE'n : ∀ q, (∀ r, r ∈ rs → R.σ r ≠ q) → E'.ρ q = E.ρ q ∧ E'.ver q = E.ver q ∧ E'.abs q = E.abs q := by
    intro q hq
    subst hE'
    have : inv q = none := by
      cases h : inv q with
      | none => rfl
      | some r => exact absurd ((hinv q).1 r h).2 (hq r ((hinv q).1 r h).1)
    simp [this]
  have hcase : ∀ q, (∃ r, r ∈ rs ∧ R.σ r = q) ∨ (∀ r, r ∈ rs → R.σ r ≠ q) := by
    intro q
    cases h : inv q with
    | some r => exact .inl ⟨r, (hinv q).1 r h⟩
    | none => exact .inr ((hinv q).2 h)
  have hEz : ∀ z b, E0.zone z b ↔ E.zone z b := fun z b => (C0.zone z b).symm
  -- a row of the caller's that was not handed in keeps its block
  have hkeep : ∀ k, k < w.heap.size → (∀ (r : Nat) (e : Ent), H0[r]? = some e → Liv E0 r e → E0.ρ r ≠ k) → w'.heap[k]? = w.heap[k]? := fun k hk h => hfr.block k hk h
  have hother : ∀ (q : Nat) (e : Ent), H[q]? = some e → Liv E q e → (∀ r, r ∈ rs → R.σ r ≠ q) → ∀ (r : Nat) (e0 : Ent), H0[r]? = some e0 → Liv E0 r e0 → E0.ρ r ≠ E.ρ q := by
    intro q e hq hl hne r e0 he0 hl0 he
    rw [← C0.rho r (hget0 r e0 he0).1] at he
    exact hne r (hp r (hget0 r e0 he0).1).1 (hr.inj _ _ _ _ (hget0 r e0 he0).2 hq ((hliv0 r e0 he0).1 hl0) hl he)
  have hEver : ∀ r, r ∈ rs → H0.length ≤ r → E.ver (R.σ r) < R.δ r := by
    intro r hr' hge
    obtain ⟨e, he, hlt'⟩ := had r hr' hge
    rw [hr.ver _ _ (hh _ _ he)]; exact hlt'
  have hv0 : ∀ r, r < H0.length → E.ver (R.σ r) = E0.ver r ∧ E'.ver (R.σ r) = E1.ver r := by
    intro r h
    have h1 := C0.ver r h
    have h2 := C1.ver r (hp r h).1
    rw [(hp r h).2] at h1 h2
    exact ⟨h1, h2⟩
  have X : Ext E E' w w' := by
    refine ⟨fun q => ?_, fun q e => ?_, fun q e => ?_, fun z b hz => ?_, fun z b hz => X1.cell z b ((hEz z b).2 hz), fun q e cur T fz hc => hfr.grow _ cur T fz hc⟩
    · rcases hcase q with ⟨r, hr', rfl⟩ | hq
      · by_cases h : r < H0.length
        · rw [(hv0 r h).1, (hv0 r h).2]; exact X1.ver r
        · have := hEver r hr' (by omega)
          have := C1.ver r hr'
          omega
      · rw [(hE'n q hq).2.1]; exact Nat.le_refl _
    · rcases hcase q with ⟨r, hr', rfl⟩ | hq
      · by_cases h : r < H0.length
        · rw [(hv0 r h).1, (hv0 r h).2] at e
          rw [C1.rho r hr', C0.rho r h]; exact X1.rho r e
        · have := hEver r hr' (by omega)
          have := C1.ver r hr'
          omega
      · exact (hE'n q hq).1
    · rcases hcase q with ⟨r, hr', rfl⟩ | hq
      · by_cases h : r < H0.length
        · rw [(hv0 r h).1, (hv0 r h).2] at e
          rw [C1.abs r hr', C0.abs r h]; exact X1.abs r e
        · have := hEver r hr' (by omega)
          have := C1.ver r hr'
          omega
      · rw [(hE'n q hq).2.2]
    · exact (C1.zone z b).2 (X1.zone z b ((hEz z b).2 hz))
  have hgetU : ∀ (q : Nat) (e : Ent), (updH H (usM R H1 rs))[q]? = some e → (∃ r, r ∈ rs ∧ R.σ r = q ∧ e = ⟨(entOf H1 r).ver + R.δ r, renB R (entOf H1 r).bd⟩) ∨ ((∀ r, r ∈ rs → R.σ r ≠ q) ∧ H[q]? = some e) := by
    intro q e he
    rcases hcase q with ⟨r, hr', rfl⟩ | hq
    · rw [hug r hr'] at he
      exact .inl ⟨r, hr', rfl, (Option.some.inj he).symm⟩
    · rw [hun q hq] at he
      exact .inr ⟨hq, he⟩
  have hlivU : ∀ r, r ∈ rs → (Liv E1 r (entOf H1 r) ↔ Liv E' (R.σ r) ⟨(entOf H1 r).ver + R.δ r, renB R (entOf H1 r).bd⟩) := by
    intro r hr'
    unfold Liv
    rw [(renB_sz (R := R) (b := (entOf H1 r).bd)).2.2, C1.abs r hr']
  have hlivO : ∀ (q : Nat) (e : Ent), (∀ r, r ∈ rs → R.σ r ≠ q) → (Liv E' q e ↔ Liv E q e) := by
    intro q e hq
    unfold Liv
    rw [(hE'n q hq).2.2]
  have hrowsU : ∀ r, r ∈ rs → Liv E1 r (entOf H1 r) → w.heap.size ≤ E1.ρ r ∨ (E1.ρ r = E0.ρ r ∧ ∃ e0 : Ent, H0[r]? = some e0 ∧ Liv E0 r e0) := by
    intro r hr' hl
    rcases hrows1 r _ (entOf_eq (honr r hr').1) hl with h | ⟨h1, h2⟩
    · exact .inl h
    · exact .inr ⟨h2, h1⟩
  have hHR : HR E' w' (updH H (usM R H1 rs)) := by
    refine ⟨fun q e he => ?_, fun q e he hl => ?_, fun q e he ha => ?_, fun q q' e e' he he' hl hl' hρ => ?_, fun z b hz => hr1.zlt z b ((C1.zone z b).1 hz), fun q e he hl z hz => ?_, fun q hge => ?_⟩
    · rcases hgetU q e he with ⟨r, hr', rfl, rfl⟩ | ⟨hq, he⟩
      · rw [C1.ver r hr', hr1.ver r _ (entOf_eq (honr r hr').1)]
      · rw [(hE'n q hq).2.1]; exact hr.ver q e he
    · rcases hgetU q e he with ⟨r, hr', rfl, rfl⟩ | ⟨hq, he⟩
      · rw [C1.rho r hr']
        exact (EntRep.ren C1 (honr r hr').2).1 (hr1.ent r _ (entOf_eq (honr r hr').1) ((hlivU r hr').2 hl))
      · rw [(hE'n q hq).1]
        have hl := (hlivO q e hq).1 hl
        exact (hr.ent q e he hl).ext X (hkeep _ (hr.lt he hl) (hother q e he hl hq))
    · rcases hgetU q e he with ⟨r, hr', rfl, rfl⟩ | ⟨hq, he⟩
      · rw [(renB_sz (R := R)).2.1]
        exact hr1.abs r _ (entOf_eq (honr r hr').1) ((C1.abs r hr').1 ha)
      · rw [(hE'n q hq).2.2] at ha; exact hr.abs q e he ha
    · have mixed : ∀ (r q : Nat) (e : Ent), r ∈ rs → Liv E1 r (entOf H1 r) → (∀ r, r ∈ rs → R.σ r ≠ q) → H[q]? = some e → Liv E q e → E1.ρ r ≠ E.ρ q := by
        intro r q e hr' hl hq he hl2 heq
        rcases hrowsU r hr' hl with h | ⟨h1, e0, h2, h3⟩
        · have := hr.lt he hl2; omega
        · exact hother q e he hl2 hq r e0 h2 h3 (h1.symm.trans heq)
      rcases hgetU q e he with ⟨r, hr', rfl, rfl⟩ | ⟨hq, he⟩ <;> rcases hgetU q' e' he' with ⟨r2, hr2, rfl, rfl⟩ | ⟨hq2, he2⟩
      · rw [C1.rho r hr', C1.rho r2 hr2] at hρ
        rw [hr1.inj r r2 _ _ (entOf_eq (honr r hr').1) (entOf_eq (honr r2 hr2).1) ((hlivU r hr').2 hl) ((hlivU r2 hr2).2 hl') hρ]
      · rw [C1.rho r hr', (hE'n q' hq2).1] at hρ
        exact absurd hρ (mixed r q' e' hr' ((hlivU r hr').2 hl) hq2 he2 ((hlivO q' e' hq2).1 hl'))
      · rw [C1.rho r2 hr2, (hE'n q hq).1] at hρ
        exact absurd hρ.symm (mixed r2 q e hr2 ((hlivU r2 hr2).2 hl') hq he ((hlivO q e hq).1 hl))
      · rw [(hE'n q hq).1, (hE'n q' hq2).1] at hρ
        exact hr.inj q q' e e' he he2 ((hlivO q e hq).1 hl) ((hlivO q' e' hq2).1 hl') hρ
    · have hz := (C1.zone z _).1 hz
      rcases hgetU q e he with ⟨r, hr', rfl, rfl⟩ | ⟨hq, he⟩
      · rw [C1.rho r hr'] at hz
        exact hr1.zrow r _ (entOf_eq (honr r hr').1) ((hlivU r hr').2 hl) z hz
      · have hl := (hlivO q e hq).1 hl
        rw [(hE'n q hq).1] at hz
        rcases hz1 z _ hz with h | h
        · exact hr.zrow q e he hl z ((hEz z _).1 h)
        · have := hr.lt he hl; omega
    · rw [hul] at hge
      have hq : ∀ r, r ∈ rs → R.σ r ≠ q := fun r hr' h => by have := hlt r hr'; omega
      rw [(hE'n q hq).2.1, (hE'n q hq).2.2]
      exact hr.top q hge
  refine ⟨v, he, renA R x0, usM R H1 rs, E', ⟨x0, H1, hpo, rfl, rfl⟩, (rep_ren C1 x0 v honx).1 hv, ⟨X, hHR, hfr.os, hfr.tape, hfr.output, hfr.size, fun z b hz => ?_, hfr.grow, fun k hk hb => ?_, fun q e he hl => ?_⟩⟩
  · exact (hz1 z b ((C1.zone z b).1 hz)).imp (hEz z b).1 id
  · refine hkeep k hk fun r e0 he0 hl0 heq => ?_
    have hrp := (hget0 r e0 he0).1
    have h1 := hb (R.σ r) _ (hget0 r e0 he0).2 ((hliv0 r e0 he0).1 hl0) ((C0.rho r hrp).trans heq)
    refine h1 ?_
    have : ∀ (l : List Nat), r ∈ l → R.σ r ∈ (usM R H1 l).map (·.1) := by
      intro l
      induction l with
      | nil => intro h; simp at h
      | cons a l ih =>
        intro h
        simp only [usM, List.map_cons, List.mem_cons]
        rcases List.mem_cons.1 h with rfl | h
        · exact .inl rfl
        · exact .inr (ih h)
    exact this rs (hp r hrp).1
  · rcases hgetU q e he with ⟨r, hr', rfl, rfl⟩ | ⟨hq, he⟩
    · rw [C1.rho r hr']
      rcases hrowsU r hr' ((hlivU r hr').2 hl) with h | ⟨h1, e0, h2, h3⟩
      · exact .inl h
      · right
        have hrp := (hget0 r e0 h2).1
        exact ⟨by rw [h1, C0.rho r hrp], _, (hget0 r e0 h2).2, (hliv0 r e0 h2).1 h3⟩
    · exact .inr ⟨(hE'n q hq).1, e, he, (hlivO q e hq).1 hl⟩
theorem callK_of {P : Program} {f : FuncId} {caps args : List AV} {hg : Nat → Option Ent} {K : AV → List (Nat × Ent) → Prop} {post : AV → List (Nat × Ent) → Prop} (h : CallSem P f (args ++ caps) hg post) (hK : ∀ v us, post v us → K v us) : callK P (.clo f caps) args hg K := by
  unfold callK
  exact ⟨f, caps, rfl, post, h, hK⟩
end Go.Proofs.Ytjfenbkhgamidaa
