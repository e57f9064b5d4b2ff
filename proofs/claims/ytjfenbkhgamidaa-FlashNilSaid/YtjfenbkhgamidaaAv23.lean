/- Functions that make several rows; nil slices as own rows without a block. Conditions: none. -/
import Derived.Test.YtjfenbkhgamidaaAv22
namespace Go.Proofs.Ytjfenbkhgamidaa
open Go.RowKit
set_option linter.unusedVariables false
section
variable {P : Program}
/-- slots that hold nil may be taken as own slices of a row that has no block -/
def leTn (r v' : Nat) : List AV → List AV → Prop
  | [], [] => True
  | x :: xs, y :: ys => (y = .any ∨ x = y ∨ (∃ sz, x = .val (.slice none 0 0) ∧ y = .own r v' sz 0 0)) ∧ leTn r v' xs ys
  | _, _ => False
theorem leTn_get {r v' : Nat} : ∀ {xs ys : List AV}, leTn r v' xs ys → xs.length = ys.length ∧ ∀ (i : Nat) y, ys[i]? = some y → y = .any ∨ ∃ x, xs[i]? = some x ∧ (x = y ∨ (∃ sz, x = .val (.slice none 0 0) ∧ y = .own r v' sz 0 0))
  | [], [], _ => ⟨rfl, by simp⟩
  | [], _ :: _, h => h.elim
  | _ :: _, [], h => h.elim
  | x :: xs, y :: ys, h => by
    obtain ⟨h1, h2⟩ := leTn_get h.2
    refine ⟨by simp [h1], fun i z hz => ?_⟩
    cases i with
    | zero =>
      simp at hz; subst hz
      rcases h.1 with h | h | h
      · exact .inl h
      · exact .inr ⟨x, rfl, .inl h⟩
      · exact .inr ⟨x, rfl, .inr h⟩
    | succ i => simpa using h2 i z (by simpa using hz)
theorem leS_nil {s : St} {t' : List AV} (r v' : Nat) (bd' : Bd) {e : Ent} (hr : getL s.H r = some e) (hv : e.ver < v') (hc : bd'.count = 0) (ht : leTn r v' s.t t') : leS s ⟨t', setL s.H r ⟨v', bd'⟩⟩ := by
  intro w0 keep E a w hR
  rw [getL_eq] at hr
  obtain ⟨h1, h2⟩ := leTn_get ht
  have hrl := (List.getElem?_eq_some_iff.1 hr).1
  have hver := hR.hr.ver r e hr
  obtain ⟨E', hE'⟩ : ∃ E' : Env, E' = { E with ver := fun k => if k = r then v' else E.ver k, abs := fun k => if k = r then True else E.abs k } := ⟨_, rfl⟩
  have ev : E'.ver r = v' := by subst hE'; simp
  have evn : ∀ k, k ≠ r → E'.ver k = E.ver k := by intro k hk; subst hE'; simp [hk]
  have ea : E'.abs r := by subst hE'; simp
  have ean : ∀ k, k ≠ r → (E'.abs k ↔ E.abs k) := by intro k hk; subst hE'; simp [hk]
  have er : ∀ k, E'.ρ k = E.ρ k := by intro k; subst hE'; rfl
  have ez : ∀ z b, E'.zone z b ↔ E.zone z b := by intro z b; subst hE'; exact Iff.rfl
  have X : Ext E E' w w := by
    refine ⟨fun k => ?_, fun k _ => er k, fun k hk => ?_, fun z b h => (ez z b).2 h, fun _ _ _ => rfl, fun k _ cur T fz h => ⟨cur, T, fz, h, Nat.le_refl _⟩⟩
    · by_cases q : k = r
      · subst q; omega
      · rw [evn k q]; exact Nat.le_refl _
    · by_cases q : k = r
      · subst q; omega
      · exact ean k q
  have hget : ∀ (k : Nat) (e' : Ent), (setL s.H r ⟨v', bd'⟩)[k]? = some e' → k = r ∧ e' = ⟨v', bd'⟩ ∨ k ≠ r ∧ s.H[k]? = some e' := by
    intro k e' h
    rw [setL_eq, List.getElem?_set] at h
    by_cases q : r = k
    · subst q
      rw [if_pos rfl, if_pos hrl] at h
      exact .inl ⟨rfl, (Option.some.inj h).symm⟩
    · rw [if_neg q] at h
      exact .inr ⟨fun h => q h.symm, h⟩
  have hliv : ∀ (k : Nat) (e' : Ent), (setL s.H r ⟨v', bd'⟩)[k]? = some e' → Liv E' k e' → k ≠ r ∧ s.H[k]? = some e' ∧ Liv E k e' := by
    intro k e' h hl
    rcases hget k e' h with ⟨rfl, rfl⟩ | ⟨q1, q2⟩
    · exact absurd ea hl.2
    · exact ⟨q1, q2, hl.1, fun q => hl.2 ((ean k q1).2 q)⟩
  refine ⟨E', ⟨by rw [← h1]; exact hR.len, fun i y hy => ?_, hR.defers, ⟨?_, ?_, ?_, ?_, ?_, ?_, ?_⟩, ⟨hR.fr.os, hR.fr.tape, hR.fr.output, hR.fr.size, hR.fr.block, hR.fr.grow, ?_⟩, hR.ext.trans X, fun z b h => hR.zone z b ((ez z b).1 h), ?_⟩⟩
  · rcases h2 i y hy with rfl | ⟨x, hx, rfl | ⟨sz, rfl, rfl⟩⟩
    · simp only [rep]
    · exact rep_ext X _ _ (hR.tmps i _ hx)
    · have := rep_val (hR.tmps i _ hx)
      rw [this, rep]
      exact ⟨by omega, fun _ => ⟨none, 0, rfl, Nat.le_refl _, Nat.zero_le _, fun _ => rfl, .inl rfl⟩⟩
  · intro k e' h
    rcases hget k e' h with ⟨rfl, rfl⟩ | ⟨q1, q2⟩
    · exact ev
    · rw [evn k q1]; exact hR.hr.ver k e' q2
  · intro k e' h hl
    obtain ⟨q1, q2, q3⟩ := hliv k e' h hl
    rw [er]; exact (hR.hr.ent k e' q2 q3).ext X rfl
  · intro k e' h ha
    rcases hget k e' h with ⟨rfl, rfl⟩ | ⟨q1, q2⟩
    · exact hc
    · exact hR.hr.abs k e' q2 ((ean k q1).1 ha)
  · intro k k' e1 e2 h h' hl hl' hρ
    obtain ⟨q1, q2, q3⟩ := hliv k e1 h hl
    obtain ⟨q4, q5, q6⟩ := hliv k' e2 h' hl'
    exact hR.hr.inj k k' e1 e2 q2 q5 q3 q6 (by rwa [er, er] at hρ)
  · exact fun z b h => hR.hr.zlt z b ((ez z b).1 h)
  · intro k e' h hl z hz
    obtain ⟨q1, q2, q3⟩ := hliv k e' h hl
    exact hR.hr.zrow k e' q2 q3 z (by rw [er] at hz; exact (ez z _).1 hz)
  · intro k hk
    rw [setL_eq, List.length_set] at hk
    have hne : k ≠ r := by omega
    rw [evn k hne, ean k hne]
    exact hR.hr.top k hk
  · intro k e' h hl hlt
    obtain ⟨q1, q2, q3⟩ := hliv k e' h hl
    rw [er] at hlt ⊢
    exact hR.fr.rows k e' q2 q3 hlt
  · intro k e' h hl
    obtain ⟨q1, q2, q3⟩ := hliv k e' h hl
    rw [er]; exact hR.rows k e' q2 q3
theorem leS_refl (s : St) : leS s s := fun _ _ E _ _ h => ⟨E, h⟩
theorem leS_trans {a b c : St} (h : leS a b) (k : leS b c) : leS a c := fun w0 keep E a w hR => by
  obtain ⟨E1, h1⟩ := h w0 keep E a w hR
  exact k w0 keep E1 a w h1
/-- the end of a function, where what is known may first be weakened -/
def retW (tb : TypeId → Option TI) (rs : List ResultVar) (post : AV → List Ent → Prop) (e : Ex) (s : St) : Prop := ∃ s', leS s s' ∧ retK tb rs post e s'
theorem spec_entryW {tb : TypeId → Option TI} (htb : TbOk P tb) {f : FuncId} {fn : Func} {c : Code} {n : Nat} {rs : List ResultVar} (hf : P.funcs[f]? = some fn) (hb : fn.body = some c) (hn : fn.ntmps = n) (hrs : fn.results = rs.toArray)
    {args : List AV} {H0 : List Ent} {post : AV → List Ent → Prop} (h : codeW tb P H0.length c (retW tb rs fun x H => H0.length ≤ H.length ∧ post x H) ⟨args ++ undefs (n - args.length), H0 ++ deads n⟩) : Spec P f args H0 post := by
  intro w E cargs hr hargs
  have hE := hr.top
  have hlen := (reps_get hargs).1
  refine calls_of_wp hf hb (wp_mono (codeW_sound (w0 := w) (keep := ⟨fun k => ∀ (r : Nat) (e : Ent), H0[r]? = some e → Liv E r e → E.ρ r ≠ k, E, fun r => ∃ e0 : Ent, H0[r]? = some e0 ∧ Liv E r e0⟩) htb h (E := E) (Rel.mk ?_ ?_ rfl ?_ ?_ (Ext.refl _ _) (fun _ _ h => .inl h) ?_)) ?_)
  · simp [undefs_len, hn, hlen]
  · intro i x hx
    rw [List.getElem?_append] at hx
    split at hx
    · rename_i hi
      obtain ⟨v, hv, hrep⟩ := (reps_get hargs).2 i x hx
      have hlt := (List.getElem?_eq_some_iff.1 hv).1
      have : (cargs.toArray ++ Array.replicate (fn.ntmps - cargs.toArray.size) undef).getD i undef = v := by
        simp only [Array.getD_eq_getD_getElem?]
        rw [Array.getElem?_append_left (by simpa using hlt)]
        simp [hv]
      rw [this]; exact hrep
    · rename_i hi
      have hx' := undefs_get hx
      subst hx'
      rw [rep]
      simp only [Array.getD_eq_getD_getElem?]
      rw [Array.getElem?_append_right (by simp; omega)]
      rw [Array.getElem?_replicate]
      split <;> rfl
  · have hget : ∀ (r : Nat) (e : Ent), (H0 ++ deads n)[r]? = some e → H0[r]? = some e ∨ (H0.length ≤ r ∧ e = ⟨0, .dead⟩) := by
      intro r e he
      rw [List.getElem?_append] at he
      split at he
      · exact .inl he
      · exact .inr ⟨by omega, deads_get he⟩
    refine ⟨?_, ?_, ?_, ?_, hr.zlt, ?_, ?_⟩
    · intro r e he
      rcases hget r e he with h1 | ⟨h1, rfl⟩
      · exact hr.ver r e h1
      · exact (hE r h1).1
    · intro r e he hl
      rcases hget r e he with h1 | ⟨h1, rfl⟩
      · exact hr.ent r e h1 hl
      · cases hl.1
    · intro r e he ha
      rcases hget r e he with h1 | ⟨h1, rfl⟩
      · exact hr.abs r e h1 ha
      · rfl
    · intro r r' e e' he he' hl hl' hρ
      rcases hget r e he with h1 | ⟨h1, rfl⟩
      · rcases hget r' e' he' with h2 | ⟨h2, rfl⟩
        · exact hr.inj r r' e e' h1 h2 hl hl' hρ
        · cases hl'.1
      · cases hl.1
    · intro r e he hl
      rcases hget r e he with h1 | ⟨h1, rfl⟩
      · exact hr.zrow r e h1 hl
      · cases hl.1
    · intro r hr'
      rw [List.length_append] at hr'
      exact hr.top r (by omega)
  · refine ⟨rfl, rfl, rfl, Nat.le_refl _, fun _ _ _ => rfl, fun _ cur T fz h => ⟨cur, T, fz, h, Nat.le_refl _⟩, fun r e he hl _ hk => ?_⟩
    rw [List.getElem?_append] at he
    split at he
    · exact hk r e he hl rfl
    · have := deads_get he; subst this; cases hl.1
  · intro r e he hl
    rw [List.getElem?_append] at he
    split at he
    · exact .inr ⟨⟨e, he, hl⟩, rfl⟩
    · have := deads_get he; subst this; cases hl.1
  · rintro e a w' ⟨ex, s0, E0, rfl, hR0, s, hle, hQ⟩
    obtain ⟨E', hR⟩ := hle _ _ _ _ _ hR0
    obtain ⟨hex, v, x, h1, h2, h3⟩ := ret_sound htb hrs hQ hR
    have hx : Ext E E' w w' := hR.ext
    rcases hex with rfl | rfl
    · exact ⟨hR.defers, v, h1, v, x, s.H, E', rfl, h3.2, h2, hR.hr, hx, hR.zone, h3.1, hR.rows, hR.fr⟩
    · exact ⟨hR.defers, v, h1, v, x, s.H, E', rfl, h3.2, h2, hR.hr, hx, hR.zone, h3.1, hR.rows, hR.fr⟩
/-! several rows -/
def allM (H : List Ent) : List (Nat × Ent) → Prop
  | [] => True
  | (q, e) :: ms => getL H q = some e ∧ allM H ms
/-- the answer of a function that makes rows: this value, the rows handed in as these, and those of its rows as these -/
def pms (X : AV) (rows : List Ent) (mk : List (Nat × Ent)) : AV → List Ent → Prop := fun x H => ∃ tl, x = X ∧ H = rows ++ tl ∧ allM H mk
def inB (p : Nat) (ids : List Nat) (r : Nat) : Bool := Nat.blt r p || ids.contains r
def idsM : List (Nat × Ent) → List Nat
  | [] => []
  | (q, _) :: ms => q :: idsM ms
def hadM (hg : Nat → Option Ent) (sg dl : List Nat) : List (Nat × Ent) → Prop
  | [] => True
  | (q, _) :: ms => (∃ e, hg (rl.getN' sg q) = some e ∧ e.ver < rl.getN' dl q) ∧ hadM hg sg dl ms
def onM (D : Nat → Prop) : List (Nat × Ent) → Prop
  | [] => True
  | (_, e) :: ms => onB D e.bd ∧ onM D ms
def usK (sg dl : List Nat) : List (Nat × Ent) → List (Nat × Ent)
  | [] => []
  | (q, e) :: ms => (rl.getN' sg q, ⟨e.ver + rl.getN' dl q, renB (rl2 sg dl) e.bd⟩) :: usK sg dl ms
theorem allM_get {H : List Ent} : ∀ {ms : List (Nat × Ent)}, allM H ms → ∀ q, q ∈ idsM ms → ∃ e, (q, e) ∈ ms ∧ getL H q = some e
  | (q', e) :: ms, h, q, hq => by
    simp only [idsM, List.mem_cons] at hq
    rcases hq with rfl | hq
    · exact ⟨e, by simp, h.1⟩
    · obtain ⟨e', h1, h2⟩ := allM_get h.2 q hq
      exact ⟨e', by simp [h1], h2⟩
theorem hadM_get {hg : Nat → Option Ent} {sg dl : List Nat} : ∀ {ms : List (Nat × Ent)}, hadM hg sg dl ms → ∀ q, q ∈ idsM ms → ∃ e, hg (rl.getN' sg q) = some e ∧ e.ver < rl.getN' dl q
  | (q', e) :: ms, h, q, hq => by
    simp only [idsM, List.mem_cons] at hq
    rcases hq with rfl | hq
    · exact h.1
    · exact hadM_get h.2 q hq
theorem onM_get {D : Nat → Prop} : ∀ {ms : List (Nat × Ent)}, onM D ms → ∀ q e, (q, e) ∈ ms → onB D e.bd
  | (q', e') :: ms, h, q, e, hq => by
    simp only [List.mem_cons, Prod.mk.injEq] at hq
    rcases hq with ⟨rfl, rfl⟩ | hq
    · exact h.1
    · exact onM_get h.2 q e hq
theorem usM_mk {sg dl : List Nat} {H : List Ent} : ∀ {ms : List (Nat × Ent)}, allM H ms → usM (rl2 sg dl) H (idsM ms) = usK sg dl ms
  | [], _ => rfl
  | (q, e) :: ms, h => by
    have : entOf H q = e := by unfold entOf; rw [h.1]
    simp only [idsM, usM, usK, this, usM_mk h.2]
    rfl
/-- A CALL of a function that makes rows -/
theorem call_mks {f : FuncId} {args0 : List AV} {H0 : List Ent} {X : AV} {rows : List Ent} {mk : List (Nat × Ent)} (S : Spec P f args0 H0 (pms X rows mk)) (hent : ∀ (as' : Array Value) (w : World), (callFunc f as').run P w = .ok (.enter f as') w)
    (p : Nat) (sg dl ids : List Nat) (hids : idsM mk = ids) (hl : H0.length = p) (hlr : rows.length = p) (hnd : (List.range p ++ ids).Nodup) (hz : ∀ r, r < p → rl.getN' dl r = 0)
    (hinj : ((List.range p ++ ids).map (rl.getN' sg)).Nodup) {args caps : List AV} {hg : Nat → Option Ent} (hargs : args ++ caps = renAs (rl2 sg dl) args0)
    (hon : onAs (· < p) args0) (hrows : allR (fun r e => onB (· < p) e.bd ∧ hg (rl.getN' sg r) = some ⟨e.ver, renB (rl2 sg dl) e.bd⟩) H0 0) (had : hadM hg sg dl mk)
    (hX : onA (fun r => inB p ids r = true) X) (hr2 : allR (fun _ e => onB (fun r => inB p ids r = true) e.bd) rows 0) (he : onM (fun r => inB p ids r = true) mk) {K : AV → List (Nat × Ent) → Prop}
    (hK : K (renA (rl2 sg dl) X) (usM (rl2 sg dl) rows (rngE rows 0) ++ usK sg dl mk)) :
    callK P (.clo f caps) args hg K := by
  subst hids
  have hm : ∀ r, r ∈ List.range p ++ idsM mk ↔ inB p (idsM mk) r = true := fun r => by
    simp only [List.mem_append, List.mem_range, inB, Bool.or_eq_true, List.contains_iff_mem]
    rw [show (Nat.blt r p = true) = (r < p) from by simp [Nat.blt]; rfl]
  have e1 : (fun r => r ∈ List.range p ++ idsM mk) = (fun r => inB p (idsM mk) r = true) := by funext r; exact propext (hm r)
  have hin : ∀ r, r ∈ List.range p ++ idsM mk → r < p ∨ r ∈ idsM mk := fun r h => by simpa using h
  refine callK_of (call_sem S hent (rl2 sg dl) (List.range p ++ idsM mk) hnd ?_ ?_ hargs ?_ ?_ ?_ ?_) ?_
  · intro r h; exact ⟨by simp; omega, hz r (by omega)⟩
  · intro a b ha hb h
    obtain ⟨i, hi, rfl⟩ := List.getElem_of_mem ha
    obtain ⟨j, hj, rfl⟩ := List.getElem_of_mem hb
    have hp := List.pairwise_iff_getElem.1 hinj
    rcases Nat.lt_trichotomy i j with q | q | q
    · have := hp i j (by simpa using hi) (by simpa using hj) q
      rw [List.getElem_map, List.getElem_map] at this
      exact absurd h this
    · subst q; rfl
    · have := hp j i (by simpa using hj) (by simpa using hi) q
      rw [List.getElem_map, List.getElem_map] at this
      exact absurd h.symm this
  · rw [hl]; exact hon
  · intro r e h
    have := allR_get hrows h
    rw [Nat.zero_add] at this
    rw [hl]; exact this
  · intro r h1 h2
    rcases hin r h1 with h | h
    · omega
    · exact hadM_get had r h
  · rintro x H1 ⟨tl, rfl, rfl, hqe⟩
    rw [e1]
    refine ⟨hX, fun r hr => ?_⟩
    rcases hin r hr with h | h
    · have hr' : r < rows.length := by omega
      refine ⟨by simp; omega, ?_⟩
      have : entOf (rows ++ tl) r = rows[r] := by
        unfold entOf
        rw [getL_eq, List.getElem?_append_left hr', List.getElem?_eq_getElem hr']
      rw [this]
      exact allR_get hr2 (List.getElem?_eq_getElem hr')
    · obtain ⟨e, h1, h2⟩ := allM_get hqe r h
      refine ⟨?_, ?_⟩
      · rw [getL_eq] at h2; exact (List.getElem?_eq_some_iff.1 h2).1
      · have : entOf (rows ++ tl) r = e := by unfold entOf; rw [h2]
        rw [this]; exact onM_get he r e h1
  · rintro v us ⟨x0, H1, ⟨tl, rfl, rfl, hqe⟩, rfl, rfl⟩
    rw [usM_append, usM_app (fun r hr => by rw [List.mem_range] at hr; omega), usM_mk hqe]
    rw [rngE_eq, hlr, ← List.range_eq_range'] at hK
    exact hK
end
end Go.Proofs.Ytjfenbkhgamidaa
