/- Functions that make a row. Conditions: none. -/
import Derived.Test.YtjfenbkhgamidaaAv21
namespace Go.Proofs.Ytjfenbkhgamidaa
open Go.RowKit
/-- the answer of a function that makes a row: this value, the rows handed in as these, and its row q as this -/
def pmk (X : AV) (rows : List Ent) (q : Nat) (e : Ent) : AV → List Ent → Prop := fun x H => ∃ tl, x = X ∧ H = rows ++ tl ∧ getL H q = some e
def rl2 (sg dl : List Nat) : Ren := ⟨fun r => rl.getN' sg r, fun r => rl.getN' dl r⟩
theorem usM_append {R : Ren} {H : List Ent} : ∀ (a b : List Nat), usM R H (a ++ b) = usM R H a ++ usM R H b
  | [], b => rfl
  | x :: a, b => by simp only [List.cons_append, usM, usM_append a b]
def rngE : List Ent → Nat → List Nat
  | [], _ => []
  | _ :: xs, n => n :: rngE xs (n + 1)
theorem rngE_eq : ∀ (l : List Ent) (n : Nat), rngE l n = List.range' n l.length
  | [], n => rfl
  | x :: l, n => by rw [rngE, rngE_eq l (n + 1)]; rfl
/-- A CALL of a function that makes a row: sg, dl: of the p rows handed in, then of the row q that it makes (what lies between is of no account), the caller's row and what its version goes up by -/
theorem call_mk {P : Program} {f : FuncId} {args0 : List AV} {H0 : List Ent} {X : AV} {rows : List Ent} {q : Nat} {en : Ent} (S : Spec P f args0 H0 (pmk X rows q en)) (hent : ∀ (as' : Array Value) (w : World), (callFunc f as').run P w = .ok (.enter f as') w)
    (p : Nat) (sg dl : List Nat) (hl : H0.length = p) (hlr : rows.length = p) (hq : p ≤ q) (hz : ∀ r, r < p → rl.getN' dl r = 0)
    (hinj : ∀ a b, (a < p ∨ a = q) → (b < p ∨ b = q) → rl.getN' sg a = rl.getN' sg b → a = b) {args caps : List AV} {hg : Nat → Option Ent} (hargs : args ++ caps = renAs (rl2 sg dl) args0)
    (hon : onAs (· < p) args0) (hrows : allR (fun r e => onB (· < p) e.bd ∧ hg (rl.getN' sg r) = some ⟨e.ver, renB (rl2 sg dl) e.bd⟩) H0 0) (had : ∃ e, hg (rl.getN' sg q) = some e ∧ e.ver < rl.getN' dl q)
    (hX : onA (fun r => r < p ∨ r = q) X) (hr2 : allR (fun _ e => onB (fun r => r < p ∨ r = q) e.bd) rows 0) (he : onB (fun r => r < p ∨ r = q) en.bd) {K : AV → List (Nat × Ent) → Prop}
    (hK : K (renA (rl2 sg dl) X) (usM (rl2 sg dl) rows (rngE rows 0) ++ [(rl.getN' sg q, ⟨en.ver + rl.getN' dl q, renB (rl2 sg dl) en.bd⟩)])) :
    callK P (.clo f caps) args hg K := by
  have hm : ∀ r, r ∈ List.range p ++ [q] ↔ (r < p ∨ r = q) := fun r => by simp
  have e1 : (fun r => r ∈ List.range p ++ [q]) = (fun r => r < p ∨ r = q) := by funext r; exact propext (hm r)
  have hget : ∀ {H1 : List Ent} {r : Nat} {e : Ent}, getL H1 r = some e → r < H1.length ∧ entOf H1 r = e := by
    intro H1 r e h
    refine ⟨?_, by unfold entOf; rw [h]⟩
    rw [getL_eq] at h
    exact (List.getElem?_eq_some_iff.1 h).1
  refine callK_of (call_sem S hent (rl2 sg dl) (List.range p ++ [q]) ?_ ?_ ?_ hargs ?_ ?_ ?_ ?_) ?_
  · rw [List.nodup_append]
    refine ⟨List.nodup_range, by simp, ?_⟩
    intro a ha b hb
    simp only [List.mem_range, List.mem_singleton] at ha hb
    omega
  · intro r h; exact ⟨(hm r).2 (.inl (by omega)), hz r (by omega)⟩
  · intro a b ha hb h
    exact hinj a b ((hm a).1 ha) ((hm b).1 hb) h
  · rw [hl]; exact hon
  · intro r e h
    have := allR_get hrows h
    rw [Nat.zero_add] at this
    rw [hl]; exact this
  · intro r h1 h2
    rcases (hm r).1 h1 with h | rfl
    · omega
    · exact had
  · rintro x H1 ⟨tl, rfl, rfl, hqe⟩
    rw [e1]
    refine ⟨hX, fun r hr => ?_⟩
    rcases (hm r).1 hr with h | rfl
    · have hr' : r < rows.length := by omega
      refine ⟨by simp; omega, ?_⟩
      have : entOf (rows ++ tl) r = rows[r] := by
        unfold entOf
        rw [getL_eq, List.getElem?_append_left hr', List.getElem?_eq_getElem hr']
      rw [this]
      exact allR_get hr2 (List.getElem?_eq_getElem hr')
    · obtain ⟨h1, h2⟩ := hget hqe
      refine ⟨h1, ?_⟩
      rw [h2]; exact he
  · rintro v us ⟨x0, H1, ⟨tl, rfl, rfl, hqe⟩, rfl, rfl⟩
    rw [usM_append, usM_app (fun r hr => by rw [List.mem_range] at hr; omega)]
    have : usM (rl2 sg dl) (rows ++ tl) [q] = [(rl.getN' sg q, ⟨en.ver + rl.getN' dl q, renB (rl2 sg dl) en.bd⟩)] := by
      simp only [usM, (hget hqe).2]; rfl
    rw [this]
    rw [rngE_eq, hlr, ← List.range_eq_range'] at hK
    exact hK
end Go.Proofs.Ytjfenbkhgamidaa
