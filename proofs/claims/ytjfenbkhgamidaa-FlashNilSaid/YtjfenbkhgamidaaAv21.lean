/- Calls of functions whose answer is given as a value and rows. Conditions: none. -/
import Derived.Test.YtjfenbkhgamidaaAv20
namespace Go.Proofs.Ytjfenbkhgamidaa
open Go.RowKit
/-- the answer of a function: this value, and the rows handed in as these -/
def pst (X : AV) (rows : List Ent) : AV → List Ent → Prop := fun x H => ∃ tl, x = X ∧ H = rows ++ tl
def allR (Q : Nat → Ent → Prop) : List Ent → Nat → Prop
  | [], _ => True
  | e :: es, n => Q n e ∧ allR Q es (n + 1)
theorem allR_get {Q : Nat → Ent → Prop} : ∀ {l : List Ent} {n r : Nat} {e : Ent}, allR Q l n → l[r]? = some e → Q (n + r) e
  | [], n, r, e, _, h => by simp at h
  | x :: l, n, 0, e, hq, h => by simp only [List.getElem?_cons_zero, Option.some.injEq] at h; subst h; exact hq.1
  | x :: l, n, r + 1, e, hq, h => by
    simp only [List.getElem?_cons_succ] at h
    have := allR_get hq.2 h
    rw [show n + (r + 1) = n + 1 + r by omega]; exact this
def rl (sg : List Nat) : Ren := ⟨fun r => getN' sg r, fun _ => 0⟩
where getN' : List Nat → Nat → Nat
  | [], _ => 0
  | x :: _, 0 => x
  | _ :: xs, r + 1 => getN' xs r
theorem getN'_eq : ∀ (l : List Nat) (r : Nat), rl.getN' l r = l.getD r 0
  | [], r => by simp [rl.getN']
  | x :: l, 0 => by simp [rl.getN']
  | x :: l, r + 1 => by simp [rl.getN', getN'_eq l r]
theorem usM_app {R : Ren} {rows tl : List Ent} : ∀ {rs : List Nat}, (∀ r, r ∈ rs → r < rows.length) → usM R (rows ++ tl) rs = usM R rows rs
  | [], _ => rfl
  | r :: rs, h => by
    have hr := h r (by simp)
    have : entOf (rows ++ tl) r = entOf rows r := by
      unfold entOf
      rw [getL_eq, getL_eq, List.getElem?_append_left hr]
    simp only [usM, this]
    rw [usM_app (fun r' h' => h r' (by simp [h']))]
def rngL : List Nat → Nat → List Nat
  | [], _ => []
  | _ :: xs, n => n :: rngL xs (n + 1)
theorem rngL_eq : ∀ (l : List Nat) (n : Nat), rngL l n = List.range' n l.length
  | [], n => rfl
  | x :: l, n => by rw [rngL, rngL_eq l (n + 1)]; rfl
/-- A CALL of a function whose answer is known as a value and rows; its rows 0, 1, .. are the caller's rows sg -/
theorem call_det {P : Program} {f : FuncId} {args0 : List AV} {H0 : List Ent} {X : AV} {rows : List Ent} (S : Spec P f args0 H0 (pst X rows)) (hent : ∀ (as' : Array Value) (w : World), (callFunc f as').run P w = .ok (.enter f as') w)
    (sg : List Nat) (hl : H0.length = sg.length) (hlr : rows.length = sg.length) (hnd : sg.Nodup) {args caps : List AV} {hg : Nat → Option Ent} (hargs : args ++ caps = renAs (rl sg) args0)
    (hon : onAs (· < sg.length) args0) (hrows : allR (fun r e => onB (· < sg.length) e.bd ∧ hg ((rl sg).σ r) = some ⟨e.ver, renB (rl sg) e.bd⟩) H0 0)
    (hX : onA (· < sg.length) X) (hr2 : allR (fun _ e => onB (· < sg.length) e.bd) rows 0) {K : AV → List (Nat × Ent) → Prop} (hK : K (renA (rl sg) X) (usM (rl sg) rows (rngL sg 0))) :
    callK P (.clo f caps) args hg K := by
  rw [rngL_eq, ← List.range_eq_range'] at hK
  have hm : ∀ r, r ∈ List.range sg.length ↔ r < sg.length := fun r => List.mem_range
  have e1 : (fun r => r ∈ List.range sg.length) = (fun r => r < sg.length) := by funext r; exact propext (hm r)
  refine callK_of (call_sem S hent (rl sg) (List.range sg.length) List.nodup_range ?_ ?_ hargs ?_ ?_ ?_ ?_) ?_
  · intro r h; exact ⟨(hm r).2 (by omega), rfl⟩
  · intro a b ha hb h
    rw [hm] at ha hb
    simp only [rl, getN'_eq] at h
    rw [List.getD_eq_getElem?_getD, List.getD_eq_getElem?_getD, List.getElem?_eq_getElem ha, List.getElem?_eq_getElem hb] at h
    simp only [Option.getD_some] at h
    have hp := List.pairwise_iff_getElem.1 hnd
    rcases Nat.lt_trichotomy a b with q | q | q
    · exact absurd h (hp a b ha hb q)
    · exact q
    · exact absurd h.symm (hp b a hb ha q)
  · rw [hl]; exact hon
  · intro r e h
    have := allR_get hrows h
    rw [Nat.zero_add] at this
    rw [hl]; exact this
  · intro r h1 h2
    rw [hm] at h1; omega
  · rintro x H1 ⟨tl, rfl, rfl⟩
    rw [e1]
    refine ⟨hX, fun r hr => ?_⟩
    rw [hm] at hr
    have hr' : r < rows.length := by omega
    refine ⟨by simp; omega, ?_⟩
    have : entOf (rows ++ tl) r = rows[r] := by
      unfold entOf
      rw [getL_eq, List.getElem?_append_left hr', List.getElem?_eq_getElem hr']
    rw [this]
    exact allR_get hr2 (List.getElem?_eq_getElem hr')
  · rintro v us ⟨x0, H1, ⟨tl, rfl, rfl⟩, rfl, rfl⟩
    rw [usM_app (fun r hr => by rw [hm] at hr; omega)]
    exact hK
theorem loop_of {B : (Ex → St → Prop) → St → Prop} {Q : Ex → St → Prop} {s : St} {σ : Type} (I : σ → St) (μ : σ → Nat) (x0 : σ) (hT : leT s.t (I x0).t) (hH : leH s.H (I x0).H) (h : ∀ x, B (backK I μ x Q) (I x)) : loopK B Q s := by
  unfold loopK
  exact ⟨σ, I, μ, x0, leS_of hT hH, h⟩
theorem back_of {σ : Type} {I : σ → St} {μ : σ → Nat} {x : σ} {Q : Ex → St → Prop} {s : St} (y : σ) (hT : leT s.t (I y).t) (hH : leH s.H (I y).H) (hl : μ y < μ x) : backK I μ x Q .normal s := ⟨y, leS_of hT hH, hl⟩
end Go.Proofs.Ytjfenbkhgamidaa
