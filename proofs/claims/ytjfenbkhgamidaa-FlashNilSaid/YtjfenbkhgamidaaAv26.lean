/- A function that is known for rows and plain values may be asked with slices of further rows of the caller's. Conditions: none. -/
import Derived.Test.YtjfenbkhgamidaaAv25
namespace Go.Proofs.Ytjfenbkhgamidaa
open Go.RowKit
set_option linter.unusedVariables false
/-- the rows that the function makes stand behind the further rows -/
def rxR (n m : Nat) : Ren := ⟨fun r => if r < n then r else r + m, fun _ => 0⟩
def rxE (n m : Nat) (e : Ent) : Ent := ⟨e.ver, renB (rxR n m) e.bd⟩
def rxL (n m : Nat) : List Ent → List Ent
  | [] => []
  | e :: es => rxE n m e :: rxL n m es
def rxM (n m : Nat) : List (Nat × Ent) → List (Nat × Ent)
  | [] => []
  | (q, e) :: ms => (q + m, rxE n m e) :: rxM n m ms
def zfL : List Ent → Prop
  | [] => True
  | e :: es => zfB (Ent.bd e) ∧ zfL es
theorem zfL_get : ∀ {l : List Ent}, zfL l → ∀ (r : Nat) (e : Ent), l[r]? = some e → zfB e.bd
  | x :: l, h, 0, e, he => by simp at he; subst he; exact h.1
  | x :: l, h, r + 1, e, he => zfL_get (l := l) h.2 r e (by simpa using he)
theorem rxL_get (n m : Nat) : ∀ (l : List Ent) (r : Nat), (rxL n m l)[r]? = (l[r]?).map (rxE n m)
  | [], r => by simp [rxL]
  | x :: l, 0 => by simp [rxL]
  | x :: l, r + 1 => by simpa [rxL] using rxL_get n m l r
theorem rxL_len (n m : Nat) : ∀ (l : List Ent), (rxL n m l).length = l.length
  | [] => rfl
  | x :: l => by simp [rxL, rxL_len n m l]
def geM (n : Nat) : List (Nat × Ent) → Prop
  | [] => True
  | (q, _) :: ms => n ≤ q ∧ geM n ms
theorem geM_get {n : Nat} : ∀ {ms : List (Nat × Ent)}, geM n ms → ∀ q, q ∈ idsM ms → n ≤ q
  | (q', e') :: ms, h, q, hq => by
    simp only [idsM, List.mem_cons] at hq
    rcases hq with rfl | hq
    · exact h.1
    · exact geM_get h.2 q hq
def tellX (n m : Nat) (ids : List Nat) (q : Nat) (e : Ent) : Ent := if q < n ∨ q ∈ ids then rxE n m e else ⟨e.ver, .dead⟩
/-- the same addresses for these rows -/
structure Sam (D : Nat → Prop) (E Ec : Env) : Prop where
  ver : ∀ r, D r → Ec.ver r = E.ver r
  rho : ∀ r, D r → Ec.ρ r = E.ρ r
  abs : ∀ r, D r → (Ec.abs r ↔ E.abs r)
mutual
theorem rep_sam {D : Nat → Prop} {E Ec : Env} {w : World} (C : Sam D E Ec) : ∀ (x : AV) (v : Value), zfA x → onA D x → rep E w x v → rep Ec w x v
  | .any, v, _, _, h => by simp only [rep]
  | .val u, v, _, _, h => by simp only [rep] at h ⊢; exact h
  | .agg l, v, hz, ho, h => by
    simp only [rep] at h ⊢
    obtain ⟨cs, rfl, h⟩ := h
    exact ⟨cs, rfl, reps_sam C l cs hz ho h⟩
  | .tup l, v, hz, ho, h => by
    simp only [rep] at h ⊢
    obtain ⟨cs, rfl, h⟩ := h
    exact ⟨cs, rfl, reps_sam C l cs hz ho h⟩
  | .bs z l, v, hz, _, _ => hz.elim
  | .sl z sz f d l, v, hz, _, _ => hz.elim
  | .own r ver sz off n, v, hz, ho, h => by
    simp only [rep, C.ver r ho, C.rho r ho, C.abs r ho] at h ⊢
    exact h
  | .ref r ver sz i j, v, hz, ho, h => by
    simp only [rep, C.ver r ho, C.rho r ho] at h ⊢
    exact h
  | .cp z cells j, v, hz, _, _ => hz.elim
  | .clo f caps, v, hz, ho, h => by
    simp only [rep] at h ⊢
    obtain ⟨cs, rfl, h⟩ := h
    exact ⟨cs, rfl, reps_sam C caps cs hz ho h⟩
  | .gd φ x, v, hz, ho, h => by
    simp only [rep] at h ⊢
    exact ⟨fun p => rep_sam C x v hz ho (h.1 p), h.2⟩
theorem reps_sam {D : Nat → Prop} {E Ec : Env} {w : World} (C : Sam D E Ec) : ∀ (xs : List AV) (vs : List Value), zfAs xs → onAs D xs → reps E w xs vs → reps Ec w xs vs
  | [], vs, _, _, h => by simp only [reps] at h ⊢; exact h
  | x :: xs, vs, hz, ho, h => by
    simp only [reps] at h ⊢
    obtain ⟨v, vs', rfl, h1, h2⟩ := h
    exact ⟨v, vs', rfl, rep_sam C x v hz.1 ho.1 h1, reps_sam C xs vs' hz.2 ho.2 h2⟩
end
theorem EntRep.sam {D : Nat → Prop} {E Ec : Env} {w : World} (C : Sam D E Ec) {b : Nat} {bd : Bd} (hz : zfB bd) (ho : onB D bd) (h : EntRep E w b bd) : EntRep Ec w b bd :=
  ⟨fun hl => by
    obtain ⟨cur, T, lo, hi, h1, h2, h3, h4⟩ := h.blk hl
    exact ⟨cur, T, lo, hi, h1, h2, h3, fun i ys hy => by
      obtain ⟨cs, h5, h6, h7⟩ := h4 i ys hy
      exact ⟨cs, h5, reps_sam C _ _ (zfB_at hz hy) (onB_at ho hy) h6, h7⟩⟩⟩
section
variable {P : Program}
/-- how arguments read, where the rows of H0 are the function's own -/
def AsX (H0 R : List Ent) (args args0 : List AV) : Prop := ∀ (E E0 : Env) (w : World) (vs : List Value), HR E w (H0 ++ R) →
  (∀ z b, E0.zone z b ↔ z = 0 ∧ b < w.heap.size ∧ ∀ (r : Nat) (e : Ent), H0[r]? = some e → Liv E r e → E.ρ r ≠ b) →
  (∀ r, r < H0.length → E0.ρ r = E.ρ r ∧ E0.ver r = E.ver r ∧ (E0.abs r ↔ E.abs r)) → reps E w args vs → reps E0 w args0 vs
theorem spec_rx {f : FuncId} {args0 : List AV} {H0 : List Ent} {X : AV} {rows : List Ent} {mk : List (Nat × Ent)} (S : Spec P f args0 H0 (pms X rows mk)) (hX : zfA X) (hH : zfL H0) (hHo : allR (fun _ e => onB (· < H0.length) e.bd) H0 0) (hrw : zfL rows) (hrl : rows.length = H0.length) (hmk : zfM mk) (hge : geM H0.length mk) {args : List AV} {R : List Ent}
    (hargs : AsX H0 R args args0) :
    Spec P f args (H0 ++ R) (pms (renA (rxR H0.length R.length) X) (rxL H0.length R.length rows ++ R) (rxM H0.length R.length mk)) := by
  intro w E cargs hr hcargs
  obtain ⟨n, hn⟩ : ∃ n, n = H0.length := ⟨_, rfl⟩
  obtain ⟨m, hm⟩ : ∃ m, m = R.length := ⟨_, rfl⟩
  rw [← hn] at hge hrl hHo
  have hlenHR : (H0 ++ R).length = n + m := by rw [List.length_append]; omega
  have getH : ∀ (r : Nat) (e : Ent), H0[r]? = some e → (H0 ++ R)[r]? = some e ∧ r < n := fun r e h => by
    have := (List.getElem?_eq_some_iff.1 h).1
    exact ⟨by rw [List.getElem?_append_left this]; exact h, by omega⟩
  have getR : ∀ (q : Nat) (e : Ent), R[q]? = some e → (H0 ++ R)[q + n]? = some e ∧ q < m := fun q e h => by
    have := (List.getElem?_eq_some_iff.1 h).1
    exact ⟨by rw [List.getElem?_append_right (by omega), show q + n - H0.length = q by omega]; exact h, by omega⟩
  have htop := hr.top
  rw [hlenHR] at htop
  obtain ⟨E0, hE0⟩ : ∃ E0 : Env, E0 = { ρ := fun r => if r < n then E.ρ r else E.ρ (r + m), ver := fun r => if r < n then E.ver r else 0, zone := fun z b => z = 0 ∧ b < w.heap.size ∧ ∀ (r : Nat) (e : Ent), H0[r]? = some e → Liv E r e → E.ρ r ≠ b, abs := fun r => if r < n then E.abs r else False } := ⟨_, rfl⟩
  have hz0 : ∀ z b, E0.zone z b ↔ z = 0 ∧ b < w.heap.size ∧ ∀ (r : Nat) (e : Ent), H0[r]? = some e → Liv E r e → E.ρ r ≠ b := by subst hE0; exact fun _ _ => Iff.rfl
  have lo0 : ∀ r, r < n → E0.ρ r = E.ρ r ∧ E0.ver r = E.ver r ∧ (E0.abs r ↔ E.abs r) := by intro r h; subst hE0; simp [h]
  have hi0 : ∀ r, ¬ r < n → E0.ρ r = E.ρ (r + m) ∧ E0.ver r = 0 ∧ ¬ E0.abs r := by intro r h; subst hE0; simp [h]
  have liv0 : ∀ (r : Nat) (e : Ent), r < n → (Liv E0 r e ↔ Liv E r e) := fun r e h => by unfold Liv; rw [(lo0 r h).2.2]
  have S0 : Sam (· < n) E E0 := ⟨fun r h => (lo0 r h).2.1, fun r h => (lo0 r h).1, fun r h => (lo0 r h).2.2⟩
  have hr0 : HR E0 w H0 := by
    refine ⟨fun r e h => ?_, fun r e h hl => ?_, fun r e h ha => ?_, fun r r' e e' h h' hl hl' hρ => ?_, fun z b h => ((hz0 z b).1 h).2.1, fun r e h hl z hz => ?_, fun r h => ?_⟩
    · rw [(lo0 r (getH r e h).2).2.1]; exact hr.ver r e (getH r e h).1
    · have h2 := (getH r e h).2
      rw [(lo0 r h2).1]
      have h3 := allR_get hHo h
      exact (hr.ent r e (getH r e h).1 ((liv0 r e h2).1 hl)).sam S0 (zfL_get hH r e h) h3
    · exact hr.abs r e (getH r e h).1 ((lo0 r (getH r e h).2).2.2.1 ha)
    · have h2 := (getH r e h).2; have h2' := (getH r' e' h').2
      rw [(lo0 r h2).1, (lo0 r' h2').1] at hρ
      exact hr.inj r r' e e' (getH r e h).1 (getH r' e' h').1 ((liv0 r e h2).1 hl) ((liv0 r' e' h2').1 hl') hρ
    · have h2 := (getH r e h).2
      rw [(lo0 r h2).1] at hz
      exact ((hz0 z _).1 hz).2.2 r e h ((liv0 r e h2).1 hl) rfl
    · have := hi0 r (by omega); exact ⟨this.2.1, this.2.2⟩
  refine Calls.mono (S w E0 cargs hr0 (hargs E E0 w cargs hr hz0 (fun r h => lo0 r (by omega)) hcargs)) fun e w' ⟨v, x, H1, E1, he, hpo, hv, hr1, X1, hz1, hlen1, hrows1, hfr⟩ => ?_
  obtain ⟨tl, hx1, hH1, hal⟩ := hpo
  have hall : ∀ k, k < w.heap.size → (∀ (r : Nat) (e : Ent), H0[r]? = some e → Liv E r e → E.ρ r ≠ k) → w'.heap[k]? = w.heap[k]? := fun k hk h => X1.cell 0 k ((hz0 0 k).2 ⟨rfl, hk, h⟩)
  have hsize := hfr.size
  have hnew : ∀ (r : Nat) (e : Ent), H1[r]? = some e → Liv E1 r e → w.heap.size ≤ E1.ρ r ∨ (r < n ∧ (∃ e0 : Ent, H0[r]? = some e0 ∧ Liv E r e0) ∧ E1.ρ r = E.ρ r) := by
    intro r e h1 h2
    rcases hrows1 r e h1 h2 with h | ⟨⟨e0, h, h3⟩, h4⟩
    · exact .inl h
    · have h5 := (getH r e0 h).2
      exact .inr ⟨h5, ⟨e0, h, (liv0 r e0 h5).1 h3⟩, by rw [h4, (lo0 r h5).1]⟩
  obtain ⟨E', hE'⟩ : ∃ E' : Env, E' = { ρ := fun k => if k < n then E1.ρ k else if k < n + m then E.ρ k else E1.ρ (k - m), ver := fun k => if k < n then E1.ver k else if k < n + m then E.ver k else E1.ver (k - m), zone := E.zone, abs := fun k => if k < n then E1.abs k else if k < n + m then E.abs k else E1.abs (k - m) } := ⟨_, rfl⟩
  have lo : ∀ k, k < n → E'.ρ k = E1.ρ k ∧ E'.ver k = E1.ver k ∧ (E'.abs k ↔ E1.abs k) := by intro k hk; subst hE'; simp [hk]
  have mi : ∀ k, k < m → E'.ρ (k + n) = E.ρ (k + n) ∧ E'.ver (k + n) = E.ver (k + n) ∧ (E'.abs (k + n) ↔ E.abs (k + n)) := by
    intro k hk; subst hE'
    have h1 : ¬ k + n < n := by omega
    have h2 : k + n < n + m := by omega
    simp [h1, h2]
  have hi : ∀ k, ¬ k < n → E'.ρ (k + m) = E1.ρ k ∧ E'.ver (k + m) = E1.ver k ∧ (E'.abs (k + m) ↔ E1.abs k) := by
    intro k hk; subst hE'
    have h1 : ¬ k + m < n := by omega
    have h2 : ¬ k + m < n + m := by omega
    simp [h1, h2]
  have three : ∀ k, k < n ∨ (∃ q, q < m ∧ k = q + n) ∨ (∃ q, ¬ q < n ∧ k = q + m) := by
    intro k
    by_cases h1 : k < n
    · exact .inl h1
    · by_cases h2 : k < n + m
      · exact .inr (.inl ⟨k - n, by omega, by omega⟩)
      · exact .inr (.inr ⟨k - m, by omega, by omega⟩)
  have ez : ∀ z b, E'.zone z b ↔ E.zone z b := by intro z b; subst hE'; exact Iff.rfl
  have C : Co2 (rxR n m) E1 E' := by
    refine ⟨fun r => ?_, fun r => ?_, fun r => ?_⟩ <;> by_cases h : r < n
    · simp only [rxR, if_pos h, Nat.add_zero]; exact (lo r h).2.1
    · simp only [rxR, if_neg h, Nat.add_zero]; exact (hi r h).2.1
    · simp only [rxR, if_pos h]; exact (lo r h).1
    · simp only [rxR, if_neg h]; exact (hi r h).1
    · simp only [rxR, if_pos h]; exact (lo r h).2.2
    · simp only [rxR, if_neg h]; exact (hi r h).2.2
  have keepR : ∀ (q : Nat) (e : Ent), R[q]? = some e → Liv E (q + n) e → w'.heap[E.ρ (q + n)]? = w.heap[E.ρ (q + n)]? := by
    intro q e h hl
    refine hall _ (hr.lt (getR q e h).1 hl) fun r e' h' hl' heq => ?_
    have := hr.inj r (q + n) e' e (getH r e' h').1 (getR q e h).1 hl' hl heq
    have := (getH r e' h').2; omega
  have X : Ext E E' w w' := by
    refine ⟨fun k => ?_, fun k hk => ?_, fun k hk => ?_, fun z b h => (ez z b).2 h, fun z b h => hall b (hr.zlt z b h) (fun r e h1 h2 heq => hr.zrow r e (getH r e h1).1 h2 z (heq ▸ h)), fun k hk cur T fz h => hfr.grow _ cur T fz h⟩
    · rcases three k with h | ⟨q, h, rfl⟩ | ⟨q, h, rfl⟩
      · rw [(lo k h).2.1, ← (lo0 k h).2.1]; exact X1.ver k
      · rw [(mi q h).2.1]; exact Nat.le_refl _
      · rw [(htop (q + m) (by omega)).1]; exact Nat.zero_le _
    · rcases three k with h | ⟨q, h, rfl⟩ | ⟨q, h, rfl⟩
      · rw [(lo k h).2.1, ← (lo0 k h).2.1] at hk
        rw [(lo k h).1, X1.rho k hk, (lo0 k h).1]
      · exact (mi q h).1
      · rw [(hi q h).2.1, (htop (q + m) (by omega)).1] at hk
        rw [(hi q h).1, X1.rho q (by rw [hk, (hi0 q h).2.1]), (hi0 q h).1]
    · rcases three k with h | ⟨q, h, rfl⟩ | ⟨q, h, rfl⟩
      · rw [(lo k h).2.1, ← (lo0 k h).2.1] at hk
        rw [(lo k h).2.2, X1.abs k hk, (lo0 k h).2.2]
      · exact (mi q h).2.2
      · rw [(hi q h).2.1, (htop (q + m) (by omega)).1] at hk
        rw [(hi q h).2.2, X1.abs q (by rw [hk, (hi0 q h).2.1])]
        exact ⟨fun a => ((hi0 q h).2.2 a).elim, fun a => ((htop (q + m) (by omega)).2 a).elim⟩
  have hH1len : n ≤ H1.length := by omega
  obtain ⟨H', hH'⟩ : ∃ H' : List Ent, H' = rxL n m rows ++ R ++ (tl.mapIdx fun q e => tellX n m (idsM mk) (q + n) e) := ⟨_, rfl⟩
  have lrx : (rxL n m rows).length = n := by rw [rxL_len]; exact hrl
  have get1 : ∀ r, r < n → H1[r]? = rows[r]? := fun r h => by rw [hH1, List.getElem?_append_left (by omega)]
  have get2 : ∀ q, ¬ q < n → H1[q]? = tl[q - n]? := fun q h => by rw [hH1, List.getElem?_append_right (by omega), hrl]
  have get : ∀ (k : Nat) (e : Ent), H'[k]? = some e → (k < n ∧ ∃ e1, H1[k]? = some e1 ∧ rows[k]? = some e1 ∧ e = rxE n m e1) ∨ (∃ q, k = q + n ∧ R[q]? = some e) ∨ (∃ q e1, ¬ q < n ∧ k = q + m ∧ H1[q]? = some e1 ∧ e = tellX n m (idsM mk) q e1) := by
    intro k e h
    rw [hH', List.append_assoc, List.getElem?_append] at h
    split at h
    · rename_i q
      rw [rxL_get, Option.map_eq_some_iff] at h
      obtain ⟨e1, h1, h2⟩ := h
      exact .inl ⟨by omega, e1, by rw [get1 k (by omega)]; exact h1, h1, h2.symm⟩
    · rename_i q
      rw [List.getElem?_append] at h
      split at h
      · exact .inr (.inl ⟨k - n, by omega, by rw [lrx] at h; exact h⟩)
      · rename_i q2
        rw [List.getElem?_mapIdx, Option.map_eq_some_iff] at h
        obtain ⟨e1, h1, h2⟩ := h
        rw [lrx] at h1 h2 q2
        refine .inr (.inr ⟨k - m, e1, by omega, by omega, ?_, ?_⟩)
        · rw [get2 _ (by omega), ← h1]; congr 1; omega
        · rw [← h2]; congr 1; omega
  have told : ∀ {q : Nat} {e1 : Ent}, H1[q]? = some e1 → (tellX n m (idsM mk) q e1).bd.live = true → ¬ q < n → tellX n m (idsM mk) q e1 = rxE n m e1 ∧ zfB e1.bd ∧ e1.bd.live = true := by
    intro q e1 h1 hl hq0
    unfold tellX at hl ⊢
    split at hl
    · rename_i hq
      rw [if_pos hq]
      refine ⟨rfl, ?_, by unfold rxE at hl; rw [(renB_sz (R := rxR n m) (b := e1.bd)).2.2] at hl; exact hl⟩
      obtain ⟨e2, h2, h3⟩ := allM_get hal q (hq.resolve_left hq0)
      rw [getL_eq, h1] at h3
      cases h3
      exact zfM_get hmk q _ h2
    · cases hl
  have tver : ∀ (q : Nat) (e1 : Ent), (tellX n m (idsM mk) q e1).ver = e1.ver := by intro q e1; unfold tellX; split <;> rfl
  have liv : ∀ (k : Nat) (e : Ent), H'[k]? = some e → Liv E' k e → (∃ q e1, (q < n ∧ k = q ∨ ¬ q < n ∧ k = q + m) ∧ H1[q]? = some e1 ∧ Liv E1 q e1 ∧ e = rxE n m e1 ∧ zfB e1.bd ∧ E'.ρ k = E1.ρ q) ∨ (∃ q, k = q + n ∧ R[q]? = some e ∧ Liv E (q + n) e ∧ E'.ρ k = E.ρ (q + n)) := by
    intro k e h hl
    rcases get k e h with ⟨h1, e1, h2, h3, rfl⟩ | ⟨q, rfl, h2⟩ | ⟨q, e1, h1, rfl, h2, rfl⟩
    · refine .inl ⟨k, e1, .inl ⟨h1, rfl⟩, h2, ⟨?_, fun a => hl.2 ((lo k h1).2.2.2 a)⟩, rfl, zfL_get hrw k e1 h3, (lo k h1).1⟩
      have := hl.1; unfold rxE at this; rw [(renB_sz (R := rxR n m) (b := e1.bd)).2.2] at this; exact this
    · have hq := (getR q e h2).2
      exact .inr ⟨q, rfl, h2, ⟨hl.1, fun a => hl.2 ((mi q hq).2.2.2 a)⟩, (mi q hq).1⟩
    · obtain ⟨t1, t2, t3⟩ := told h2 hl.1 h1
      exact .inl ⟨q, e1, .inr ⟨h1, rfl⟩, h2, ⟨t3, fun a => hl.2 ((hi q h1).2.2.2 a)⟩, t1, t2, (hi q h1).1⟩
  have hHR : HR E' w' H' := by
    refine ⟨?_, ?_, ?_, ?_, ?_, ?_, ?_⟩
    · intro k e h
      rcases get k e h with ⟨h1, e1, h2, h3, rfl⟩ | ⟨q, rfl, h2⟩ | ⟨q, e1, h1, rfl, h2, rfl⟩
      · rw [(lo k h1).2.1]; exact hr1.ver k e1 h2
      · rw [(mi q (getR q e h2).2).2.1]; exact hr.ver _ e (getR q e h2).1
      · rw [(hi q h1).2.1, tver]; exact hr1.ver q e1 h2
    · intro k e h hl
      rcases liv k e h hl with ⟨q, e1, h1, h2, h3, rfl, h4, h5⟩ | ⟨q, rfl, h2, h3, h5⟩
      · rw [h5]
        exact (hr1.ent q e1 h2 h3).co2 C h4
      · rw [h5]
        exact (hr.ent _ e (getR q e h2).1 h3).ext X (keepR q e h2 h3)
    · intro k e h ha
      rcases get k e h with ⟨h1, e1, h2, h3, rfl⟩ | ⟨q, rfl, h2⟩ | ⟨q, e1, h1, rfl, h2, rfl⟩
      · have := hr1.abs k e1 h2 ((lo k h1).2.2.1 ha)
        unfold rxE; rw [(renB_sz (R := rxR n m) (b := e1.bd)).2.1]; exact this
      · exact hr.abs _ e (getR q e h2).1 ((mi q (getR q e h2).2).2.2.1 ha)
      · have := hr1.abs q e1 h2 ((hi q h1).2.2.1 ha)
        unfold tellX; split
        · unfold rxE; rw [(renB_sz (R := rxR n m) (b := e1.bd)).2.1]; exact this
        · rfl
    · intro k k' e e' h h' hl hl' hρ
      rcases liv k e h hl with ⟨q, e1, h1, h2, h3, rfl, h4, h5⟩ | ⟨q, rfl, h2, h3, h5⟩ <;> rcases liv k' e' h' hl' with ⟨q', e1', g1, g2, g3, rfl, g4, g5⟩ | ⟨q', rfl, g2, g3, g5⟩
      · rw [h5, g5] at hρ
        have := hr1.inj q q' e1 e1' h2 g2 h3 g3 hρ
        omega
      · rw [h5, g5] at hρ
        have k1 := hr.lt (getR q' e' g2).1 g3
        rcases hnew q e1 h2 h3 with h | ⟨k2, ⟨e0, k3, k4⟩, k5⟩
        · omega
        · rw [k5] at hρ
          have := hr.inj q (q' + n) e0 e' (getH q e0 k3).1 (getR q' e' g2).1 k4 g3 hρ
          omega
      · rw [h5, g5] at hρ
        have k1 := hr.lt (getR q e h2).1 h3
        rcases hnew q' e1' g2 g3 with h | ⟨k2, ⟨e0, k3, k4⟩, k5⟩
        · omega
        · rw [k5] at hρ
          have := hr.inj (q + n) q' e e0 (getR q e h2).1 (getH q' e0 k3).1 h3 k4 hρ
          omega
      · rw [h5, g5] at hρ
        exact hr.inj _ _ e e' (getR q e h2).1 (getR q' e' g2).1 h3 g3 hρ
    · exact fun z b h => Nat.lt_of_lt_of_le (hr.zlt z b ((ez z b).1 h)) hsize
    · intro k e h hl z hz
      have hz' := (ez z _).1 hz
      rcases liv k e h hl with ⟨q, e1, h1, h2, h3, rfl, h4, h5⟩ | ⟨q, rfl, h2, h3, h5⟩
      · rw [h5] at hz'
        rcases hnew q e1 h2 h3 with h | ⟨k2, ⟨e0, k3, k4⟩, k5⟩
        · have := hr.zlt z _ hz'; omega
        · rw [k5] at hz'; exact hr.zrow q e0 (getH q e0 k3).1 k4 z hz'
      · rw [h5] at hz'; exact hr.zrow _ e (getR q e h2).1 h3 z hz'
    · intro k hk
      have hl1 : H1.length = n + tl.length := by rw [hH1, List.length_append, hrl]
      rw [hH', List.length_append, List.length_append, lrx, List.length_mapIdx] at hk
      have := hr1.top (k - m) (by omega)
      have h2 := hi (k - m) (by omega)
      rw [show k - m + m = k by omega] at h2
      rw [h2.2.1]
      exact ⟨this.1, fun a => this.2 (h2.2.2.1 a)⟩
  refine ⟨v, renA (rxR n m) x, H', E', he, ⟨_, by rw [hx1, hn, hm], by rw [hH', hn, hm], ?_⟩, ?_, hHR, X, fun z b h => .inl ((ez z b).1 h), by rw [hH', hlenHR, List.length_append, List.length_append, lrx]; omega, ?_, ⟨hfr.os, hfr.tape, hfr.output, hfr.size, fun k hk hkeep => ?_, hfr.grow, ?_⟩⟩
  · have key : ∀ (ms : List (Nat × Ent)), (∀ q, q ∈ idsM ms → q ∈ idsM mk) → geM n ms → allM H1 ms → allM H' (rxM n m ms) := by
      intro ms
      induction ms with
      | nil => intro _ _ _; trivial
      | cons y ms ih =>
        obtain ⟨q, e⟩ := y
        intro hsub hg hm'
        refine ⟨?_, ih (fun q' hq' => hsub q' (by simp [idsM, hq'])) hg.2 hm'.2⟩
        have h1 := hm'.1
        have hqn : ¬ q < n := by have := hg.1; omega
        rw [getL_eq, get2 q hqn] at h1
        rw [getL_eq, hH', List.getElem?_append_right (by rw [List.length_append, lrx]; omega), List.getElem?_mapIdx, List.length_append, lrx, show q + m - (n + R.length) = q - n by omega, h1]
        unfold tellX
        have : q - n + n = q := by omega
        simp [hsub q (by simp [idsM]), this]
    rw [← hn, ← hm]
    exact key mk (fun _ h => h) hge hal
  · rw [hx1]
    rw [hx1] at hv
    exact rep_co2 C _ _ hX hv
  · intro k e h hl
    rcases liv k e h hl with ⟨q, e1, h1, h2, h3, rfl, h4, h5⟩ | ⟨q, rfl, h2, h3, h5⟩
    · rw [h5]
      rcases hnew q e1 h2 h3 with h | ⟨k2, ⟨e0, k3, k4⟩, k5⟩
      · exact .inl h
      · have hkq : k = q := by omega
        subst hkq
        exact .inr ⟨⟨e0, (getH k e0 k3).1, k4⟩, k5⟩
    · exact .inr ⟨⟨e, (getR q e h2).1, h3⟩, h5⟩
  · exact hfr.block k hk fun r e h1 h2 => by
      have h3 := (getH r e h1).2
      rw [(lo0 r h3).1]
      exact hkeep r e (getH r e h1).1 ((liv0 r e h3).1 h2)
  · intro k e h hl hlt
    rcases liv k e h hl with ⟨q, e1, h1, h2, h3, rfl, h4, h5⟩ | ⟨q, rfl, h2, h3, h5⟩
    · rw [h5] at hlt ⊢
      rcases hnew q e1 h2 h3 with h | ⟨k2, ⟨e0, k3, k4⟩, k5⟩
      · omega
      · rw [k5]; intro hk; exact hk q e0 (getH q e0 k3).1 k4 rfl
    · rw [h5]; intro hk; exact hk _ e (getR q e h2).1 h3 rfl
/-! how arguments read -/
def AX (H0 R : List Ent) (x x0 : AV) : Prop := ∀ (E E0 : Env) (w : World) (v : Value), HR E w (H0 ++ R) →
  (∀ z b, E0.zone z b ↔ z = 0 ∧ b < w.heap.size ∧ ∀ (r : Nat) (e : Ent), H0[r]? = some e → Liv E r e → E.ρ r ≠ b) →
  (∀ r, r < H0.length → E0.ρ r = E.ρ r ∧ E0.ver r = E.ver r ∧ (E0.abs r ↔ E.abs r)) → rep E w x v → rep E0 w x0 v
theorem asX_nil {H0 R : List Ent} : AsX H0 R [] [] := fun E E0 w vs _ _ _ h => by rw [reps] at h ⊢; exact h
theorem asX_cons {H0 R : List Ent} {x x0 : AV} {xs xs0 : List AV} (h : AX H0 R x x0) (k : AsX H0 R xs xs0) : AsX H0 R (x :: xs) (x0 :: xs0) := fun E E0 w vs hr hz hlo hv => by
  rw [reps] at hv ⊢
  obtain ⟨v, vs', rfl, h1, h2⟩ := hv
  exact ⟨v, vs', rfl, h E E0 w v hr hz hlo h1, k E E0 w vs' hr hz hlo h2⟩
/-- a value that names no zone, and rows of the function's alone -/
theorem aX_same {H0 R : List Ent} {x : AV} (hz : zfA x) (ho : onA (· < H0.length) x) : AX H0 R x x := fun E E0 w v _ _ hlo h =>
  rep_sam ⟨fun r hr => (hlo r hr).2.1, fun r hr => (hlo r hr).1, fun r hr => (hlo r hr).2.2⟩ x v hz ho h
theorem aX_bs {H0 R : List Ent} {z : Nat} {l : List UInt8} : AX H0 R (.bs z l) (.bs 0 l) := fun E E0 w v hr hz _ h => by
  rw [rep] at h ⊢
  obtain ⟨a, n, c, rfl, h1, h2, h3, h4, h5⟩ := h
  refine ⟨a, n, c, rfl, h1, h2, h3, h4, fun i x hx => ?_⟩
  obtain ⟨b, o, h6, h7, h8⟩ := h5 i x hx
  exact ⟨b, o, h6, (hz 0 b).2 ⟨rfl, hr.zlt z b h7, fun r e he hl heq => hr.zrow r e (by rw [List.getElem?_append_left (List.getElem?_eq_some_iff.1 he).1]; exact he) hl z (heq ▸ h7)⟩, h8⟩
theorem aX_own {H0 R : List Ent} {q ver off n : Nat} {l : List UInt8} (he : getL R q = some ⟨ver, .bytes l⟩) (hle : off + n ≤ l.length) : AX H0 R (.own (q + H0.length) ver 1 off n) (.bs 0 ((l.drop off).take n)) := fun E E0 w v hr hz _ h => by
  rw [getL_eq] at he
  have heH : (H0 ++ R)[q + H0.length]? = some ⟨ver, .bytes l⟩ := by
    rw [List.getElem?_append_right (by omega), show q + H0.length - H0.length = q by omega]; exact he
  have hb := bs_of_own hr heH rfl rfl hle h
  rw [rep] at h
  obtain ⟨a', c', hv, h2, h3, h4, h5⟩ := h.2 (hr.ver _ _ heH).symm
  obtain ⟨a, n', c, hva, hS⟩ := hb
  rw [hv] at hva
  cases hva
  rw [hv, rep]
  refine ⟨a', n, c', rfl, hS.len1.symm, hS.le, hS.max, hS.nil, fun i x hx => ?_⟩
  have hn : 0 < n := by
    have := (List.getElem?_eq_some_iff.1 hx).1
    simp only [List.length_take, List.length_drop] at this; omega
  obtain ⟨hna, rfl, _⟩ := h5.resolve_left (by omega)
  have hc := hS.cell _ rfl i (bv x) (by rw [bvs, List.getElem?_map, hx]; rfl)
  rw [Addr.add_lit] at hc
  refine ⟨_, _, rfl, (hz 0 _).2 ⟨rfl, hr.lt heH ⟨rfl, hna⟩, fun r e hre hl heq => ?_⟩, hc⟩
  have hrl := (List.getElem?_eq_some_iff.1 hre).1
  have := hr.inj r (q + H0.length) e _ (by rw [List.getElem?_append_left hrl]; exact hre) heH hl ⟨rfl, hna⟩ heq
  omega
theorem pst_pms {X : AV} {rows : List Ent} {x : AV} {H : List Ent} (h : pst X rows x H) : pms X rows [] x H := by
  obtain ⟨tl, h1, h2⟩ := h
  exact ⟨tl, h1, h2, trivial⟩
theorem spec_mono {f : FuncId} {args : List AV} {H0 : List Ent} {p q : AV → List Ent → Prop} (S : Spec P f args H0 p) (h : ∀ x H, p x H → q x H) : Spec P f args H0 q := fun w E cargs hr ha =>
  Calls.mono (S w E cargs hr ha) fun e w' ⟨v, x, H1, E1, he, hpo, r⟩ => ⟨v, x, H1, E1, he, h x H1 hpo, r⟩
theorem spec_pms {f : FuncId} {args : List AV} {H0 : List Ent} {X : AV} {rows : List Ent} (S : Spec P f args H0 (pst X rows)) : Spec P f args H0 (pms X rows []) := spec_mono S fun _ _ h => pst_pms h
/-- the answer is of no account -/
theorem spec_forget {f : FuncId} {args : List AV} {H0 rows : List Ent} (S : Spec P f args H0 (fun x H => ∃ tl, H = rows ++ tl)) : Spec P f args H0 (pms .any rows []) := fun w E cargs hr ha =>
  Calls.mono (S w E cargs hr ha) fun e w' ⟨v, x, H1, E1, he, ⟨tl, hpo⟩, hv, r⟩ => ⟨v, .any, H1, E1, he, ⟨tl, rfl, hpo, trivial⟩, by simp only [rep], r⟩
end
end Go.Proofs.Ytjfenbkhgamidaa
