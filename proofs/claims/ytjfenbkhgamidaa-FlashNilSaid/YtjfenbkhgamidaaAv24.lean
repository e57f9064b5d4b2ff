/- A function that is known for plain values may be asked with what the caller owns. Conditions: none. -/
import Derived.Test.YtjfenbkhgamidaaAv23
namespace Go.Proofs.Ytjfenbkhgamidaa
open Go.RowKit
set_option linter.unusedVariables false
mutual
/-- it names no zone -/
def zfA : AV → Prop
  | .any => True
  | .val v => True
  | .agg l => zfAs l
  | .tup l => zfAs l
  | .bs z l => False
  | .sl z sz f d l => False
  | .own r ver sz off n => True
  | .ref r ver sz i j => True
  | .cp z cells j => False
  | .clo f caps => zfAs caps
  | .gd φ x => zfA x
def zfAs : List AV → Prop
  | [] => True
  | x :: xs => zfA x ∧ zfAs xs
end
def zfB : Bd → Prop
  | .dead => True
  | .bytes l => True
  | .row sz f d l => ∀ a, zfAs (f a)
  | .obj l => zfAs l
/-- as Com, but for zones -/
structure Co2 (R : Ren) (E Ec : Env) : Prop where
  ver : ∀ r, Ec.ver (R.σ r) = E.ver r + R.δ r
  rho : ∀ r, Ec.ρ (R.σ r) = E.ρ r
  abs : ∀ r, (Ec.abs (R.σ r) ↔ E.abs r)
mutual
theorem rep_co2 {R : Ren} {E Ec : Env} {w : World} (C : Co2 R E Ec) : ∀ (x : AV) (v : Value), zfA x → rep E w x v → rep Ec w (renA R x) v
  | .any, v, _, h => by simp only [renA, rep]
  | .val u, v, _, h => by simp only [renA, rep] at h ⊢; exact h
  | .agg l, v, hz, h => by
    simp only [renA, rep] at h ⊢
    obtain ⟨cs, rfl, h⟩ := h
    exact ⟨cs, rfl, reps_co2 C l cs hz h⟩
  | .tup l, v, hz, h => by
    simp only [renA, rep] at h ⊢
    obtain ⟨cs, rfl, h⟩ := h
    exact ⟨cs, rfl, reps_co2 C l cs hz h⟩
  | .bs z l, v, hz, _ => hz.elim
  | .sl z sz f d l, v, hz, _ => hz.elim
  | .own r ver sz off n, v, hz, h => by
    simp only [renA, rep, C.ver, C.rho, C.abs] at h ⊢
    exact ⟨by omega, fun e => h.2 (by omega)⟩
  | .ref r ver sz i j, v, hz, h => by
    simp only [renA, rep, C.ver, C.rho] at h ⊢
    exact ⟨by omega, fun e => h.2 (by omega)⟩
  | .cp z cells j, v, hz, _ => hz.elim
  | .clo f caps, v, hz, h => by
    simp only [renA, rep] at h ⊢
    obtain ⟨cs, rfl, h⟩ := h
    exact ⟨cs, rfl, reps_co2 C caps cs hz h⟩
  | .gd φ x, v, hz, h => by
    simp only [renA, rep] at h ⊢
    exact ⟨fun p => rep_co2 C x v hz (h.1 p), h.2⟩
theorem reps_co2 {R : Ren} {E Ec : Env} {w : World} (C : Co2 R E Ec) : ∀ (xs : List AV) (vs : List Value), zfAs xs → reps E w xs vs → reps Ec w (renAs R xs) vs
  | [], vs, _, h => by simp only [renAs, reps] at h ⊢; exact h
  | x :: xs, vs, hz, h => by
    simp only [renAs, reps] at h ⊢
    obtain ⟨v, vs', rfl, h1, h2⟩ := h
    exact ⟨v, vs', rfl, rep_co2 C x v hz.1 h1, reps_co2 C xs vs' hz.2 h2⟩
end
theorem zfB_at {bd : Bd} (h : zfB bd) {i : Nat} {ys : List AV} (hy : bd.at i = some ys) : zfAs ys := by
  cases bd with
  | dead => simp [Bd.at] at hy
  | bytes l =>
    simp only [Bd.at, Option.map_eq_some_iff] at hy
    obtain ⟨b, _, rfl⟩ := hy
    simp [zfAs, zfA]
  | row sz f d l =>
    simp only [Bd.at, Option.map_eq_some_iff] at hy
    obtain ⟨b, _, rfl⟩ := hy
    exact h b
  | obj l =>
    simp only [Bd.at] at hy
    split at hy
    · cases hy; exact h
    · cases hy
theorem EntRep.co2 {R : Ren} {E Ec : Env} {w : World} (C : Co2 R E Ec) {b : Nat} {bd : Bd} (hz : zfB bd) (h : EntRep E w b bd) : EntRep Ec w b (renB R bd) := by
  obtain ⟨e1, e2, e3⟩ := renB_sz (R := R) (b := bd)
  refine ⟨fun hl => ?_⟩
  obtain ⟨cur, T, lo, hi, h1, h2, h3, h4⟩ := h.blk (by rwa [e3] at hl)
  refine ⟨cur, T, lo, hi, h1, h2, by rw [e1, e2]; exact h3, fun i ys hy => ?_⟩
  rw [renB_at] at hy
  obtain ⟨ys', hy', rfl⟩ := Option.map_eq_some_iff.1 hy
  obtain ⟨cs, h5, h6, h7⟩ := h4 i ys' hy'
  rw [e1]
  exact ⟨cs, h5, reps_co2 C _ _ (zfB_at hz hy') h6, h7⟩
def shR (n : Nat) : Ren := ⟨fun r => r + n, fun _ => 0⟩
def shM (n : Nat) : List (Nat × Ent) → List (Nat × Ent)
  | [] => []
  | (q, e) :: ms => (q + n, ⟨e.ver, renB (shR n) e.bd⟩) :: shM n ms
def zfM : List (Nat × Ent) → Prop
  | [] => True
  | (_, e) :: ms => zfB e.bd ∧ zfM ms
theorem zfM_get : ∀ {ms : List (Nat × Ent)}, zfM ms → ∀ q e, (q, e) ∈ ms → zfB e.bd
  | (q', e') :: ms, h, q, e, hq => by
    simp only [List.mem_cons, Prod.mk.injEq] at hq
    rcases hq with ⟨rfl, rfl⟩ | hq
    · exact h.1
    · exact zfM_get h.2 q e hq
/-- what stands in the place of a row that is not told -/
def tellE (n : Nat) (ids : List Nat) (q : Nat) (e : Ent) : Ent := if q ∈ ids then ⟨e.ver, renB (shR n) e.bd⟩ else ⟨e.ver, .dead⟩
section
variable {P : Program}
theorem spec_ro {f : FuncId} {args0 : List AV} {X : AV} {mk : List (Nat × Ent)} (S : Spec P f args0 [] (pms X [] mk)) (hX : zfA X) (hmk : zfM mk) {args : List AV} {rows : List Ent}
    (hargs : ∀ (E E0 : Env) (w : World) (vs : List Value), HR E w rows → (∀ z b, E0.zone z b ↔ z = 0 ∧ b < w.heap.size) → reps E w args vs → reps E0 w args0 vs) :
    Spec P f args rows (pms (renA (shR rows.length) X) rows (shM rows.length mk)) := by
  intro w E cargs hr hcargs
  obtain ⟨n, hn⟩ : ∃ n, n = rows.length := ⟨_, rfl⟩
  rw [← hn]
  obtain ⟨E0, hE0⟩ : ∃ E0 : Env, E0 = { ρ := fun r => E.ρ (r + n), ver := fun _ => 0, zone := fun z b => z = 0 ∧ b < w.heap.size, abs := fun _ => False } := ⟨_, rfl⟩
  have hz0 : ∀ z b, E0.zone z b ↔ z = 0 ∧ b < w.heap.size := by subst hE0; exact fun _ _ => Iff.rfl
  have hr0 : HR E0 w [] := by
    refine ⟨by simp, by simp, by simp, by simp, fun z b h => ((hz0 z b).1 h).2, by simp, fun r _ => ?_⟩
    subst hE0; exact ⟨rfl, fun h => h⟩
  refine Calls.mono (S w E0 cargs hr0 (hargs E E0 w cargs hr hz0 hcargs)) fun e w' ⟨v, x, H1, E1, he, hpo, hv, hr1, X1, hz1, hlen1, hrows1, hfr⟩ => ?_
  obtain ⟨tl, hx1, hH1, hal⟩ := hpo
  rw [List.nil_append] at hH1
  have hall : ∀ k, k < w.heap.size → w'.heap[k]? = w.heap[k]? := fun k hk => X1.cell 0 k ((hz0 0 k).2 ⟨rfl, hk⟩)
  have hsize := hfr.size
  have hnew : ∀ (r : Nat) (e : Ent), H1[r]? = some e → Liv E1 r e → w.heap.size ≤ E1.ρ r := by
    intro r e h1 h2
    rcases hrows1 r e h1 h2 with h | ⟨⟨e0, h, _⟩, _⟩
    · exact h
    · simp at h
  have htop := hr.top
  obtain ⟨E', hE'⟩ : ∃ E' : Env, E' = { ρ := fun k => if k < n then E.ρ k else E1.ρ (k - n), ver := fun k => if k < n then E.ver k else E1.ver (k - n), zone := E.zone, abs := fun k => if k < n then E.abs k else E1.abs (k - n) } := ⟨_, rfl⟩
  have lo : ∀ k, k < n → E'.ρ k = E.ρ k ∧ E'.ver k = E.ver k ∧ (E'.abs k ↔ E.abs k) := by intro k hk; subst hE'; simp [hk]
  have hi : ∀ k, E'.ρ (k + n) = E1.ρ k ∧ E'.ver (k + n) = E1.ver k ∧ (E'.abs (k + n) ↔ E1.abs k) := by
    intro k; subst hE'
    have : ¬ k + n < n := by omega
    simp [this]
  have hi' : ∀ k, ¬ k < n → ∃ q, k = q + n := fun k hk => ⟨k - n, by omega⟩
  have ez : ∀ z b, E'.zone z b ↔ E.zone z b := by intro z b; subst hE'; exact Iff.rfl
  have C : Co2 (shR n) E1 E' := ⟨fun r => (hi r).2.1, fun r => (hi r).1, fun r => (hi r).2.2⟩
  have X : Ext E E' w w' := by
    refine ⟨fun k => ?_, fun k hk => ?_, fun k hk => ?_, fun z b h => (ez z b).2 h, fun z b h => hall b (hr.zlt z b h), fun k hk cur T fz h => ?_⟩
    · by_cases q : k < n
      · rw [(lo k q).2.1]; exact Nat.le_refl _
      · rw [(htop k (by omega)).1]; exact Nat.zero_le _
    · by_cases q : k < n
      · exact (lo k q).1
      · obtain ⟨m, rfl⟩ := hi' k q
        rw [(hi m).2.1, (htop (m + n) (by omega)).1] at hk
        have := X1.rho m (by rw [hk]; subst hE0; rfl)
        rw [(hi m).1, this]; subst hE0; rfl
    · by_cases q : k < n
      · exact (lo k q).2.2
      · obtain ⟨m, rfl⟩ := hi' k q
        rw [(hi m).2.1, (htop (m + n) (by omega)).1] at hk
        have := X1.abs m (by rw [hk]; subst hE0; rfl)
        rw [(hi m).2.2, this]
        have h2 := (htop (m + n) (by omega)).2
        subst hE0
        exact ⟨fun h => h.elim, fun h => (h2 h).elim⟩
    · have hlt := (Array.getElem?_eq_some_iff.1 h).1
      exact ⟨cur, T, fz, by rw [hall _ hlt]; exact h, Nat.le_refl _⟩
  obtain ⟨H', hH'⟩ : ∃ H' : List Ent, H' = rows ++ (H1.mapIdx fun q e => tellE n (idsM mk) q e) := ⟨_, rfl⟩
  have get : ∀ (k : Nat) (e : Ent), H'[k]? = some e → (k < n ∧ rows[k]? = some e) ∨ (∃ q e1, k = q + n ∧ H1[q]? = some e1 ∧ e = tellE n (idsM mk) q e1) := by
    intro k e h
    rw [hH', List.getElem?_append] at h
    split at h
    · rename_i q; exact .inl ⟨by omega, h⟩
    · rename_i q
      rw [List.getElem?_mapIdx, Option.map_eq_some_iff] at h
      obtain ⟨e1, h1, h2⟩ := h
      exact .inr ⟨k - rows.length, e1, by omega, h1, h2.symm⟩
  have told : ∀ {q : Nat} {e1 : Ent}, H1[q]? = some e1 → (tellE n (idsM mk) q e1).bd.live = true → tellE n (idsM mk) q e1 = ⟨e1.ver, renB (shR n) e1.bd⟩ ∧ zfB e1.bd ∧ e1.bd.live = true := by
    intro q e1 h1 hl
    unfold tellE at hl ⊢
    split at hl
    · rename_i hq
      rw [if_pos hq]
      refine ⟨rfl, ?_, by rw [(renB_sz (R := shR n) (b := e1.bd)).2.2] at hl; exact hl⟩
      obtain ⟨e2, h2, h3⟩ := allM_get hal q hq
      rw [getL_eq, h1] at h3
      cases h3
      exact zfM_get hmk q _ h2
    · cases hl
  have tver : ∀ (q : Nat) (e1 : Ent), (tellE n (idsM mk) q e1).ver = e1.ver := by intro q e1; unfold tellE; split <;> rfl
  have liv : ∀ (k : Nat) (e : Ent), H'[k]? = some e → Liv E' k e → (k < n ∧ rows[k]? = some e ∧ Liv E k e) ∨ (∃ q e1, k = q + n ∧ H1[q]? = some e1 ∧ Liv E1 q e1 ∧ e = ⟨e1.ver, renB (shR n) e1.bd⟩ ∧ zfB e1.bd) := by
    intro k e h hl
    rcases get k e h with ⟨h1, h2⟩ | ⟨q, e1, rfl, h2, rfl⟩
    · exact .inl ⟨h1, h2, hl.1, fun a => hl.2 ((lo k h1).2.2.2 a)⟩
    · obtain ⟨t1, t2, t3⟩ := told h2 hl.1
      exact .inr ⟨q, e1, rfl, h2, ⟨t3, fun a => hl.2 ((hi q).2.2.2 a)⟩, t1, t2⟩
  have hHR : HR E' w' H' := by
    refine ⟨?_, ?_, ?_, ?_, ?_, ?_, ?_⟩
    · intro k e h
      rcases get k e h with ⟨h1, h2⟩ | ⟨q, e1, rfl, h2, rfl⟩
      · rw [(lo k h1).2.1]; exact hr.ver k e h2
      · rw [(hi q).2.1, tver]; exact hr1.ver q e1 h2
    · intro k e h hl
      rcases liv k e h hl with ⟨h1, h2, h3⟩ | ⟨q, e1, rfl, h2, h3, rfl, h4⟩
      · rw [(lo k h1).1]
        exact (hr.ent k e h2 h3).ext X (hall _ (hr.lt h2 h3))
      · rw [(hi q).1]
        exact (hr1.ent q e1 h2 h3).co2 C h4
    · intro k e h ha
      rcases get k e h with ⟨h1, h2⟩ | ⟨q, e1, rfl, h2, rfl⟩
      · exact hr.abs k e h2 ((lo k h1).2.2.1 ha)
      · have := hr1.abs q e1 h2 ((hi q).2.2.1 ha)
        unfold tellE; split
        · rw [(renB_sz (R := shR n) (b := e1.bd)).2.1]; exact this
        · rfl
    · intro k k' e e' h h' hl hl' hρ
      rcases liv k e h hl with ⟨h1, h2, h3⟩ | ⟨q, e1, rfl, h2, h3, rfl, h4⟩ <;> rcases liv k' e' h' hl' with ⟨g1, g2, g3⟩ | ⟨q', e1', rfl, g2, g3, rfl, g4⟩
      · rw [(lo k h1).1, (lo k' g1).1] at hρ
        exact hr.inj k k' e e' h2 g2 h3 g3 hρ
      · rw [(lo k h1).1, (hi q').1] at hρ
        have := hr.lt h2 h3; have := hnew q' e1' g2 g3; omega
      · rw [(hi q).1, (lo k' g1).1] at hρ
        have := hr.lt g2 g3; have := hnew q e1 h2 h3; omega
      · rw [(hi q).1, (hi q').1] at hρ
        rw [hr1.inj q q' e1 e1' h2 g2 h3 g3 hρ]
    · exact fun z b h => Nat.lt_of_lt_of_le (hr.zlt z b ((ez z b).1 h)) hsize
    · intro k e h hl z hz
      rcases liv k e h hl with ⟨h1, h2, h3⟩ | ⟨q, e1, rfl, h2, h3, rfl, h4⟩
      · rw [(lo k h1).1] at hz; exact hr.zrow k e h2 h3 z ((ez z _).1 hz)
      · rw [(hi q).1] at hz
        have := hr.zlt z _ ((ez z _).1 hz); have := hnew q e1 h2 h3; omega
    · intro k hk
      rw [hH', List.length_append, List.length_mapIdx] at hk
      obtain ⟨q, rfl⟩ := hi' k (by omega)
      have := hr1.top q (by omega)
      rw [(hi q).2.1]
      exact ⟨this.1, fun a => this.2 ((hi q).2.2.1 a)⟩
  refine ⟨v, renA (shR n) x, H', E', he, ⟨_, by rw [hx1], hH', ?_⟩, ?_, hHR, X, fun z b h => .inl ((ez z b).1 h), by rw [hH', List.length_append]; omega, ?_, ⟨hfr.os, hfr.tape, hfr.output, hfr.size, fun k hk _ => hall k hk, fun k cur T fz h => ⟨cur, T, fz, by rw [hall k (Array.getElem?_eq_some_iff.1 h).1]; exact h, Nat.le_refl _⟩, ?_⟩⟩
  · have key : ∀ (ms : List (Nat × Ent)), (∀ q, q ∈ idsM ms → q ∈ idsM mk) → allM H1 ms → allM H' (shM n ms) := by
      intro ms
      induction ms with
      | nil => intro _ _; trivial
      | cons m ms ih =>
        obtain ⟨q, e⟩ := m
        intro hsub hm
        refine ⟨?_, ih (fun q' hq' => hsub q' (by simp [idsM, hq'])) hm.2⟩
        have h1 := hm.1
        rw [getL_eq] at h1
        rw [getL_eq, hH', List.getElem?_append_right (by omega), List.getElem?_mapIdx, show q + n - rows.length = q by omega, h1]
        unfold tellE
        simp [hsub q (by simp [idsM])]
    exact key mk (fun _ h => h) hal
  · rw [hx1]
    rw [hx1] at hv
    exact rep_co2 C _ _ hX hv
  · intro k e h hl
    rcases liv k e h hl with ⟨h1, h2, h3⟩ | ⟨q, e1, rfl, h2, h3, rfl, h4⟩
    · exact .inr ⟨⟨e, h2, h3⟩, (lo k h1).1⟩
    · rw [(hi q).1]; exact .inl (hnew q e1 h2 h3)
  · intro k e h hl hlt
    rcases liv k e h hl with ⟨h1, h2, h3⟩ | ⟨q, e1, rfl, h2, h3, rfl, h4⟩
    · rw [(lo k h1).1]
      intro hk
      exact hk k e h2 h3 rfl
    · rw [(hi q).1] at hlt
      have := hnew q e1 h2 h3; omega
/-! how arguments read -/
def AsL (rows : List Ent) (args args0 : List AV) : Prop := ∀ (E E0 : Env) (w : World) (vs : List Value), HR E w rows → (∀ z b, E0.zone z b ↔ z = 0 ∧ b < w.heap.size) → reps E w args vs → reps E0 w args0 vs
def As (rows : List Ent) (x x0 : AV) : Prop := ∀ (E E0 : Env) (w : World) (v : Value), HR E w rows → (∀ z b, E0.zone z b ↔ z = 0 ∧ b < w.heap.size) → rep E w x v → rep E0 w x0 v
theorem asL_nil {rows : List Ent} : AsL rows [] [] := fun E E0 w vs _ _ h => by rw [reps] at h ⊢; exact h
theorem asL_cons {rows : List Ent} {x x0 : AV} {xs xs0 : List AV} (h : As rows x x0) (k : AsL rows xs xs0) : AsL rows (x :: xs) (x0 :: xs0) := fun E E0 w vs hr hz hv => by
  rw [reps] at hv ⊢
  obtain ⟨v, vs', rfl, h1, h2⟩ := hv
  exact ⟨v, vs', rfl, h E E0 w v hr hz h1, k E E0 w vs' hr hz h2⟩
theorem as_val {rows : List Ent} {u : Value} : As rows (.val u) (.val u) := fun E E0 w v _ _ h => by rw [rep] at h ⊢; exact h
theorem as_any {rows : List Ent} {x : AV} : As rows x .any := fun E E0 w v _ _ h => by rw [rep]; trivial
theorem as_agg {rows : List Ent} {xs xs0 : List AV} (h : AsL rows xs xs0) : As rows (.agg xs) (.agg xs0) := fun E E0 w v hr hz hv => by
  rw [rep] at hv ⊢
  obtain ⟨cs, rfl, hv⟩ := hv
  exact ⟨cs, rfl, h E E0 w cs hr hz hv⟩
theorem rep_of_bs {E0 : Env} {w : World} {v : Value} {l : List UInt8} (h : BS w v l) (hz : ∀ z b, E0.zone z b ↔ z = 0 ∧ b < w.heap.size) (hlit : 0 < l.length → ∀ a n c, v = .slice (some a) n c → a.spot = none) : rep E0 w (.bs 0 l) v := by
  obtain ⟨a, n, c, rfl, hS⟩ := h
  rw [rep]
  refine ⟨a, n, c, rfl, hS.len1.symm, hS.le, hS.max, hS.nil, fun i x hx => ?_⟩
  have hc : ∀ ad, a = some ad → w.cell? (ad.add i) = some (bv x) := fun ad had => by
    have := hS.cell ad had i (bv x) (by simp [bvs, hx])
    exact this
  cases a with
  | none =>
    have h1 := hS.nil rfl
    have h2 := hS.le
    have h3 := hS.len1
    have := (List.getElem?_eq_some_iff.1 hx).1
    omega
  | some ad =>
    obtain ⟨b, o, p⟩ := ad
    have hp := hlit (Nat.lt_of_le_of_lt (Nat.zero_le _) (List.getElem?_eq_some_iff.1 hx).1) _ _ _ rfl
    simp only at hp
    subst hp
    have h1 := hc _ rfl
    rw [Addr.add_lit] at h1
    refine ⟨b, o, rfl, (hz 0 b).2 ⟨rfl, ?_⟩, h1⟩
    unfold World.cell? at h1
    simp only at h1
    cases hb : w.heap[b]? with
    | none => simp [hb] at h1
    | some _ => exact (Array.getElem?_eq_some_iff.1 hb).1
theorem as_nil {rows : List Ent} : As rows (.val (.slice none 0 0)) (.bs 0 []) := fun E E0 w v _ hz h => by
  rw [rep_val h]
  exact rep_of_bs (BS.nil w) hz (fun _ _ _ _ h => by cases h)
theorem as_bs {rows : List Ent} {z : Nat} {l : List UInt8} : As rows (.bs z l) (.bs 0 l) := fun E E0 w v hr hz h => by
  rw [rep] at h ⊢
  obtain ⟨a, n, c, rfl, h1, h2, h3, h4, h5⟩ := h
  refine ⟨a, n, c, rfl, h1, h2, h3, h4, fun i x hx => ?_⟩
  obtain ⟨b, o, h6, h7, h8⟩ := h5 i x hx
  exact ⟨b, o, h6, (hz 0 b).2 ⟨rfl, hr.zlt z b h7⟩, h8⟩
theorem as_own {rows : List Ent} {r ver off n : Nat} {l : List UInt8} (he : getL rows r = some ⟨ver, .bytes l⟩) (hle : off + n ≤ l.length) : As rows (.own r ver 1 off n) (.bs 0 ((l.drop off).take n)) := fun E E0 w v hr hz h => by
  rw [getL_eq] at he
  have hb := bs_of_own hr he rfl rfl hle h
  refine rep_of_bs hb hz (fun hpos a m c hv => ?_)
  rw [rep] at h
  obtain ⟨a', c', h1, h2, h3, h4, h5⟩ := h.2 (hr.ver r _ he).symm
  rw [hv] at h1
  cases h1
  rcases h5 with h5 | ⟨_, h6, _⟩
  · simp only [List.length_take, List.length_drop] at hpos; omega
  · cases h6; rfl
end
end Go.Proofs.Ytjfenbkhgamidaa
