/- Abstract values: code, loops, functions. Conditions: what 'TIok' says of the types. -/
import Derived.Test.YtjfenbkhgamidaaAv12
namespace Go.Proofs.Ytjfenbkhgamidaa
open Go.RowKit
set_option linter.unusedVariables false
inductive Ex where
  | normal
  | exit (id : Nat)
  | ret
def Ex.to : Ex → Exit
  | .normal => .normal
  | .exit i => .exit i
  | .ret => .ret
def thenK (K : St → Prop) (Q : Ex → St → Prop) (e : Ex) (s : St) : Prop := match e with
  | .normal => K s
  | .exit i => Q (.exit i) s
  | .ret => Q .ret s
def blkK (id : Nat) (Q : Ex → St → Prop) (e : Ex) (s : St) : Prop := match e with
  | .normal => Q .normal s
  | .exit i => if i = id then Q .normal s else Q (.exit i) s
  | .ret => Q .ret s
/-- what is known of a state holds of another one too -/
def leS (s s' : St) : Prop := ∀ (w0 : World) (keep : Bs) (E : Env) (a : Act) (w : World), Rel w0 keep E s a w → ∃ E', Rel w0 keep E' s' a w
def backK {σ : Type} (I : σ → St) (μ : σ → Nat) (x : σ) (Q : Ex → St → Prop) (e : Ex) (s : St) : Prop := match e with
  | .normal => ∃ y, leS s (I y) ∧ μ y < μ x
  | .exit i => Q (.exit i) s
  | .ret => Q .ret s
@[irreducible] def loopK (B : (Ex → St → Prop) → St → Prop) (Q : Ex → St → Prop) (s : St) : Prop :=
  ∃ (σ : Type) (I : σ → St) (μ : σ → Nat) (x0 : σ), leS s (I x0) ∧ ∀ x, B (backK I μ x Q) (I x)
/-- a region that draws its order -/
@[irreducible] def drawK (P : Program) (id : Nat) (ops : Array Oper) (K : St → Prop) (s : St) : Prop :=
  ∀ (w0 : World) (keep : Bs) (E : Env) (a : Act) (w : World), Rel w0 keep E s a w → (Code.region id ops true).wp P (fun e a' w' => e = .normal ∧ ∃ s' E', Rel w0 keep E' s' a' w' ∧ K s') a w
def condK (c : AV) (φ : Prop) (A B : Prop) : Prop := match c with
  | .val (.bool q) => φ ∧ (q = true → A) ∧ (q = false → B)
  | _ => False
def codeW (tb : TypeId → Option TI) (P : Program) (p : Nat) : Code → (Ex → St → Prop) → St → Prop
  | .skip, Q, s => Q .normal s
  | .label _, Q, s => Q .normal s
  | .region id ops draw, Q, s => match draw with
    | false => opsW tb P p ops.toList ops.toList (Q .normal) s
    | true => drawK P id ops (Q .normal) s
  | .seq a b, Q, s => codeW tb P p a (thenK (codeW tb P p b Q) Q) s
  | .cond c a b, Q, s => condK (evA s.t c) (gpO s.t c) (codeW tb P p a Q s) (codeW tb P p b Q s)
  | .block id b, Q, s => codeW tb P p b (blkK id Q) s
  | .loop b, Q, s => loopK (codeW tb P p b) Q s
  | .exit id, Q, s => Q (.exit id) s
  | .ret, Q, s => Q .ret s
  | .scope b, Q, s => codeW tb P p b Q s
  | _, _, _ => False
section
variable {P : Program} {w0 : World} {keep : Bs}
def PostS (w0 : World) (keep : Bs) (Q : Ex → St → Prop) (e : Exit) (a : Act) (w : World) : Prop := ∃ ex s E, e = ex.to ∧ Rel w0 keep E s a w ∧ Q ex s
theorem codeW_sound {tb : TypeId → Option TI} (htb : TbOk P tb) {p : Nat} : ∀ {c : Code} {Q : Ex → St → Prop} {s : St}, codeW tb P p c Q s → ∀ {E : Env} {a : Act} {w : World}, Rel w0 keep E s a w → c.wp P (PostS w0 keep Q) a w
  | .skip, Q, s, h, E, a, w, hR => wp_skip ⟨.normal, s, E, rfl, hR, h⟩
  | .label l, Q, s, h, E, a, w, hR => wp_label ⟨.normal, s, E, rfl, hR, h⟩
  | .region id ops draw, Q, s, h, E, a, w, hR => by
    simp only [codeW] at h
    split at h
    · exact wp_region_list (opsW_sound htb h hR (fun s' E' a' w' h1 h2 => ⟨.normal, s', E', rfl, h1, h2⟩))
    · unfold drawK at h
      exact wp_mono (h w0 keep E a w hR) (fun e a' w' ⟨he, s', E', h1, h2⟩ => ⟨.normal, s', E', he, h1, h2⟩)
  | .seq x y, Q, s, h, E, a, w, hR => by
    simp only [codeW] at h
    refine wp_seq (wp_mono (codeW_sound htb h hR) fun e a' w' ⟨ex, s', E', he, h1, h2⟩ => ?_)
    subst he
    cases ex with
    | normal => exact codeW_sound htb h2 h1
    | exit i => exact ⟨.exit i, s', E', rfl, h1, h2⟩
    | ret => exact ⟨.ret, s', E', rfl, h1, h2⟩
  | .cond c x y, Q, s, h, E, a, w, hR => by
    simp only [codeW, condK] at h
    split at h
    · rename_i q hc
      have hv := hR.opnd h.1
      rw [hc] at hv
      exact wp_cond_split (rep_val hv) (fun hq => codeW_sound htb (h.2.1 hq) hR) (fun hq => codeW_sound htb (h.2.2 hq) hR)
    · exact h.elim
  | .block id b, Q, s, h, E, a, w, hR => by
    simp only [codeW] at h
    refine wp_block (wp_mono (codeW_sound htb h hR) fun e a' w' ⟨ex, s', E', he, h1, h2⟩ => ?_)
    subst he
    cases ex with
    | normal => exact ⟨.normal, s', E', rfl, h1, h2⟩
    | exit i =>
      simp only [Ex.to, Exit.inBlock]
      simp only [blkK] at h2
      split
      · rename_i hi; rw [if_pos hi] at h2; exact ⟨.normal, s', E', rfl, h1, h2⟩
      · rename_i hi; rw [if_neg hi] at h2; exact ⟨.exit i, s', E', rfl, h1, h2⟩
    | ret => exact ⟨.ret, s', E', rfl, h1, h2⟩
  | .loop b, Q, s, h, E, a, w, hR => by
    simp only [codeW, loopK] at h
    obtain ⟨σ, I, μ, x0, h0, hI⟩ := h
    obtain ⟨E0, hR0⟩ := h0 w0 keep E a w hR
    intro b' k cs
    have key : ∀ (n : Nat) (x : σ) (E : Env) (a : Act) (w : World), μ x = n → Rel w0 keep E (I x) a w →
        ∃ e a' w', PostS w0 keep Q e a' w' ∧ Arrives P (lone (b'.at a (.code b :: .inLoop b :: k)) cs w) b' k cs e a' w' := by
      intro n
      induction n using Nat.strongRecOn with
      | _ n ih =>
        intro x E a w hn hR
        obtain ⟨e, a₁, w₁, ⟨ex, s', E', he, h1, h2⟩, harr⟩ := codeW_sound htb (hI x) hR b' (.inLoop b :: k) cs
        subst he
        cases ex with
        | normal =>
          obtain ⟨y, hle, hlt⟩ := h2
          obtain ⟨E2, hR2⟩ := hle w0 keep E' a₁ w₁ h1
          obtain ⟨e₂, a₂, w₂, hq₂, harr₂⟩ := ih (μ y) (hn ▸ hlt) y E2 a₁ w₁ rfl hR2
          exact ⟨e₂, a₂, w₂, hq₂, .of_steps (Steps.trans harr (.one step_inLoop)) harr₂⟩
        | exit id => exact ⟨_, a₁, w₁, ⟨.exit id, s', E', rfl, h1, h2⟩, .pass (x := .inLoop b) rfl (fun _ _ => .inl (by simp [Ex.to])) harr⟩
        | ret => exact ⟨_, a₁, w₁, ⟨.ret, s', E', rfl, h1, h2⟩, .pass (x := .inLoop b) rfl (fun _ _ => .inl (by simp [Ex.to])) harr⟩
    obtain ⟨e, a', w', hq, harr⟩ := key _ x0 E0 a w rfl hR0
    exact ⟨e, a', w', hq, .of_steps (.one step_loop) harr⟩
  | .exit id, Q, s, h, E, a, w, hR => wp_exit ⟨.exit id, s, E, rfl, hR, h⟩
  | .ret, Q, s, h, E, a, w, hR => wp_ret ⟨.ret, s, E, rfl, hR, h⟩
  | .scope b, Q, s, h, E, a, w, hR => by
    simp only [codeW] at h
    refine wp_scope_straight (wp_mono (codeW_sound htb h hR) fun e a' w' ⟨ex, s', E', he, h1, h2⟩ => ?_)
    subst he
    cases ex <;> exact ⟨_, s', E', rfl, h1, h2⟩
  | .rangeFunc .., Q, s, h, E, a, w, hR => h.elim
  | .goto _, Q, s, h, E, a, w, hR => h.elim
  | .refuse _, Q, s, h, E, a, w, hR => h.elim

/-! weakenings -/
def leT : List AV → List AV → Prop
  | [], [] => True
  | x :: xs, y :: ys => (match y with | .any => True | y => x = y) ∧ leT xs ys
  | _, _ => False
def leH : List Ent → List Ent → Prop
  | [], [] => True
  | x :: xs, y :: ys => (match y.bd with | .dead => x.ver = y.ver | _ => x = y) ∧ leH xs ys
  | _, _ => False
theorem leT_get : ∀ {xs ys : List AV}, leT xs ys → xs.length = ys.length ∧ ∀ (i : Nat) y, ys[i]? = some y → y = .any ∨ xs[i]? = some y
  | [], [], _ => ⟨rfl, by simp⟩
  | [], _ :: _, h => h.elim
  | _ :: _, [], h => h.elim
  | x :: xs, y :: ys, h => by
    obtain ⟨h1, h2⟩ := leT_get h.2
    refine ⟨by simp [h1], fun i z hz => ?_⟩
    cases i with
    | zero =>
      simp at hz; subst hz
      have := h.1
      split at this
      · exact .inl rfl
      · right; simp [this]
    | succ i => simpa using h2 i z (by simpa using hz)
theorem leH_get : ∀ {xs ys : List Ent}, leH xs ys → ∀ (i : Nat) (y : Ent), ys[i]? = some y → ∃ x : Ent, xs[i]? = some x ∧ (y.bd = .dead ∧ x.ver = y.ver ∨ x = y)
  | [], [], _ => by simp
  | [], _ :: _, h => h.elim
  | _ :: _, [], h => h.elim
  | x :: xs, y :: ys, h => by
    intro i z hz
    cases i with
    | zero =>
      simp at hz; subst hz
      refine ⟨x, rfl, ?_⟩
      have := h.1
      split at this
      · rename_i hd; exact .inl ⟨hd, this⟩
      · exact .inr this
    | succ i => simpa using leH_get h.2 i z (by simpa using hz)
theorem leH_len : ∀ {xs ys : List Ent}, leH xs ys → xs.length = ys.length
  | [], [], _ => rfl
  | [], _ :: _, h => h.elim
  | _ :: _, [], h => h.elim
  | x :: xs, y :: ys, h => by simp [leH_len h.2]
theorem leS_of {s s' : St} (ht : leT s.t s'.t) (hH : leH s.H s'.H) : leS s s' := by
  intro w0 keep E a w hR
  obtain ⟨h1, h2⟩ := leT_get ht
  have hg := leH_get hH
  have hl : ∀ (r : Nat) (e : Ent), s'.H[r]? = some e → Liv E r e → ∃ e0 : Ent, s.H[r]? = some e0 ∧ e0 = e := by
    intro r e he hl
    obtain ⟨x, hx, h3 | h3⟩ := hg r e he
    · have := hl.1; rw [h3.1] at this; cases this
    · exact ⟨x, hx, h3⟩
  refine ⟨E, ⟨by rw [← h1]; exact hR.len, fun i x hx => ?_, hR.defers, ⟨?_, ?_, ?_, ?_, hR.hr.zlt, ?_, ?_⟩, ⟨hR.fr.os, hR.fr.tape, hR.fr.output, hR.fr.size, hR.fr.block, hR.fr.grow, ?_⟩, hR.ext, hR.zone, ?_⟩⟩
  · rcases h2 i x hx with rfl | h
    · simp only [rep]
    · exact hR.tmps i x h
  · intro r e he
    obtain ⟨x, hx, h3 | h3⟩ := hg r e he
    · rw [hR.hr.ver r x hx]; exact h3.2
    · subst h3; exact hR.hr.ver r x hx
  · intro r e he hl1
    obtain ⟨x, hx, rfl⟩ := hl r e he hl1
    exact hR.hr.ent r x hx hl1
  · intro r e he ha
    obtain ⟨x, hx, h3 | h3⟩ := hg r e he
    · rw [h3.1]; rfl
    · subst h3; exact hR.hr.abs r x hx ha
  · intro r r' e e' he he' hl1 hl2 hρ
    obtain ⟨x, hx, rfl⟩ := hl r e he hl1
    obtain ⟨x', hx', rfl⟩ := hl r' e' he' hl2
    exact hR.hr.inj r r' x x' hx hx' hl1 hl2 hρ
  · intro r e he hl1
    obtain ⟨x, hx, rfl⟩ := hl r e he hl1
    exact hR.hr.zrow r x hx hl1
  · intro r hr
    exact hR.hr.top r (by rw [leH_len hH]; exact hr)
  · intro r e he hl1
    obtain ⟨x, hx, rfl⟩ := hl r e he hl1
    exact hR.fr.rows r x hx hl1
  · intro r e he hl1
    obtain ⟨x, hx, rfl⟩ := hl r e he hl1
    exact hR.rows r x hx hl1

/-! functions -/
def env0 (w : World) : Env := { ρ := fun _ => w.heap.size, ver := fun _ => 0, zone := fun z b => z = 0 ∧ b < w.heap.size, abs := fun _ => False }
def deads : Nat → List Ent
  | 0 => []
  | n + 1 => ⟨0, .dead⟩ :: deads n
def undefs : Nat → List AV
  | 0 => []
  | n + 1 => .val undef :: undefs n
theorem deads_get : ∀ {n r : Nat} {e : Ent}, (deads n)[r]? = some e → e = ⟨0, .dead⟩
  | 0, _, _, h => by simp [deads] at h
  | n + 1, 0, _, h => by simp [deads] at h; exact h.symm
  | n + 1, r + 1, _, h => deads_get (n := n) (r := r) (by simpa [deads] using h)
theorem undefs_len : ∀ n, (undefs n).length = n
  | 0 => rfl
  | n + 1 => by simp [undefs, undefs_len n]
theorem undefs_get : ∀ {n r : Nat} {x : AV}, (undefs n)[r]? = some x → x = .val undef
  | 0, _, _, h => by simp [undefs] at h
  | n + 1, 0, _, h => by simp [undefs] at h; exact h.symm
  | n + 1, r + 1, _, h => undefs_get (n := n) (r := r) (by simpa [undefs] using h)
/-- what a call comes to: the rows that were handed in may be others behind it, and there may be new ones; nothing else is touched -/
def Spec (P : Program) (f : FuncId) (args : List AV) (H0 : List Ent) (post : AV → List Ent → Prop) : Prop :=
  ∀ (w : World) (E : Env) (cargs : List Value), HR E w H0 → reps E w args cargs →
    Calls P f cargs.toArray w fun e w' => ∃ v x H E', e = .returned v ∧ post x H ∧ rep E' w' x v ∧ HR E' w' H ∧ Ext E E' w w' ∧ (∀ z b, E'.zone z b → E.zone z b ∨ w.heap.size ≤ b) ∧ H0.length ≤ H.length ∧ (∀ (r : Nat) (e : Ent), H[r]? = some e → Liv E' r e → w.heap.size ≤ E'.ρ r ∨ ((∃ e0 : Ent, H0[r]? = some e0 ∧ Liv E r e0) ∧ E'.ρ r = E.ρ r)) ∧ Fr w (fun k => ∀ (r : Nat) (e : Ent), H0[r]? = some e → Liv E r e → E.ρ r ≠ k) E' H w'
/-- the results of a function -/
def resA (tb : TypeId → Option TI) (t : List AV) (H : List Ent) : List ResultVar → (Prop → List AV → Prop) → Prop
  | [], K => K True []
  | .tmp i :: rs, K => resA tb t H rs fun Φ l => K (gpA (getA t i) ∧ Φ) (unA (getA t i) :: l)
  | .cell i T :: rs, K => match tb T with
    | none => False
    | some ti => match unA (getA t i) with
      | .ref r ver sz k j => match getL H r with
        | none => False
        | some e => bdK e.bd sz k fun Φ cells => cvK ti (dropL cells j) fun Ψ v => resA tb t H rs fun Φ' l => K (gpA (getA t i) ∧ ver = e.ver ∧ Φ ∧ Ψ ∧ Φ') (v :: l)
      | _ => False
def retV : List AV → AV
  | [x] => x
  | l => .tup l
def retK (tb : TypeId → Option TI) (rs : List ResultVar) (post : AV → List Ent → Prop) (e : Ex) (s : St) : Prop := match e with
  | .exit _ => False
  | _ => resA tb s.t s.H rs fun Φ l => Φ ∧ post (retV l) s.H
def resF (tmps : Array Value) : ResultVar → Sem Value
  | .tmp t => pure (tmps.getD t undef)
  | .cell a t => do loadVar t (← asAddr (tmps.getD a undef))
theorem resA_sound {tb : TypeId → Option TI} (htb : TbOk P tb) {t : List AV} {H : List Ent} : ∀ {rs : List ResultVar} {K : Prop → List AV → Prop}, resA tb t H rs K →
    ∃ Φ l, K Φ l ∧ (Φ → ∀ {E : Env} {s : St} {a : Act} {w : World}, s.t = t → s.H = H → Rel w0 keep E s a w →
      ∃ vs : List Value, reps E w l vs ∧ (rs.mapM (m := Sem) (resF a.tmps)).run P w = .ok vs w)
  | [], K, h => ⟨_, _, h, fun _ {E s a w} _ _ _ => ⟨[], by simp [reps], by simp⟩⟩
  | .tmp i :: rs, K, h => by
    simp only [resA] at h
    obtain ⟨Φ, l, h, hl⟩ := resA_sound htb h
    refine ⟨_, _, h, fun p {E s a w} hs hH hR => ?_⟩
    obtain ⟨vs, h1, h2⟩ := hl p.2 hs hH hR
    refine ⟨a.tmps.getD i undef :: vs, ?_, ?_⟩
    · simp only [reps]
      exact ⟨_, _, rfl, rep_un (by have := hR.get i; rw [hs] at this; exact this) p.1, h1⟩
    · have e1 : (resF a.tmps (.tmp i)).run P w = .ok (a.tmps.getD i undef) w := rfl
      simp only [List.mapM_cons, Sem.run_bind, e1, h2, Sem.run_pure, Result.andThen_ok]
  | .cell i T :: rs, K, h => by
    simp only [resA] at h
    split at h
    · exact h.elim
    rename_i ti hti
    split at h
    rotate_left
    · exact h.elim
    rename_i r ver sz k j hx
    split at h
    · exact h.elim
    rename_i e he
    obtain ⟨Φ1, ys, h, hb⟩ := bdK_sound h
    obtain ⟨Ψ, v, h, hl1⟩ := cv_load (htb T ti hti) h
    obtain ⟨Φ, l, h, hl⟩ := resA_sound htb h
    refine ⟨_, _, h, fun p {E s a w} hs hH hR => ?_⟩
    obtain ⟨p1, p2, p3, p4, p5⟩ := p
    obtain ⟨vs, h1, h2⟩ := hl p5 hs hH hR
    have hv := hR.get i
    rw [hs] at hv
    have hv := rep_un hv p1
    rw [hx, rep] at hv
    rw [getL_eq, ← hH] at he
    have hpt := hv.2 (p2.trans (hR.hr.ver r e he).symm)
    obtain ⟨hb1, hb2⟩ := hb p3
    obtain ⟨cs, h5, h6, h7⟩ := hR.hr.cells he hb1
    obtain ⟨cv, hc2, _, hc1⟩ := hl1 p4 E w cs h6
    have hc1 := hc1 (E.ρ r) (k * e.bd.sz) h7
    refine ⟨cv :: vs, ?_, ?_⟩
    · simp only [reps]
      exact ⟨_, _, rfl, hc2, h1⟩
    · rw [hb2] at hpt
      have e1 : (resF a.tmps (.cell i T)).run P w = .ok cv w := by
        simp only [resF, hpt, asAddr, Sem.run_bind, Sem.run_pure, Result.andThen_ok, hc1]
      simp only [List.mapM_cons, Sem.run_bind, e1, h2, Sem.run_pure, Result.andThen_ok]
theorem ret_sound {tb : TypeId → Option TI} (htb : TbOk P tb) {fn : Func} {rs : List ResultVar} (hrs : fn.results = rs.toArray) {post : AV → List Ent → Prop} {e : Ex} {s : St} (h : retK tb rs post e s) {E : Env} {a : Act} {w : World} (hR : Rel w0 keep E s a w) :
    (e = .normal ∨ e = .ret) ∧ ∃ v x, (results fn a.tmps).run P w = .ok v w ∧ rep E w x v ∧ post x s.H := by
  have key : resA tb s.t s.H rs (fun Φ l => Φ ∧ post (retV l) s.H) → ∃ v x, (results fn a.tmps).run P w = .ok v w ∧ rep E w x v ∧ post x s.H := by
    intro h
    obtain ⟨Φ, l, ⟨hΦ, hp⟩, hl⟩ := resA_sound (w0 := w0) (keep := keep) htb h
    obtain ⟨vs, h1, h2⟩ := hl hΦ rfl rfl hR
    have hlen := (reps_get h1).1
    have h3 : (results fn a.tmps).run P w = .ok (if h : vs.toArray.size = 1 then vs.toArray[0] else .tuple vs.toArray) w := by
      have e0 : results fn a.tmps = (do
          let vs ← fn.results.mapM (resF a.tmps)
          pure (if h : vs.size = 1 then vs[0] else .tuple vs)) := rfl
      rw [e0, hrs, Sem.run_bind, List.mapM_toArray]
      have e2 : (List.toArray <$> rs.mapM (m := Sem) (resF a.tmps)) = ((rs.mapM (m := Sem) (resF a.tmps)) >>= fun l => pure (List.toArray l)) := rfl
      rw [e2, Sem.run_bind, h2]
      rfl
    refine ⟨_, retV l, h3, ?_, hp⟩
    cases l with
    | nil =>
      have : vs = [] := List.eq_nil_of_length_eq_zero (by simpa using hlen.symm)
      subst this
      simp only [retV, rep]
      exact ⟨[], rfl, by simp [reps]⟩
    | cons x l =>
      cases l with
      | nil =>
        rw [reps] at h1
        obtain ⟨u, us, rfl, h4, h5⟩ := h1
        rw [reps] at h5
        subst h5
        simpa [retV] using h4
      | cons y l =>
        have : ¬ vs.toArray.size = 1 := by simp at hlen ⊢; omega
        rw [dif_neg this]
        simp only [retV, rep]
        exact ⟨vs, rfl, h1⟩
  cases e with
  | normal => exact ⟨.inl rfl, key h⟩
  | ret => exact ⟨.inr rfl, key h⟩
  | exit i => exact h.elim
theorem spec_entry {tb : TypeId → Option TI} (htb : TbOk P tb) {f : FuncId} {fn : Func} {c : Code} {n : Nat} {rs : List ResultVar} (hf : P.funcs[f]? = some fn) (hb : fn.body = some c) (hn : fn.ntmps = n) (hrs : fn.results = rs.toArray)
    {args : List AV} {H0 : List Ent} {post : AV → List Ent → Prop} (h : codeW tb P H0.length c (retK tb rs fun x H => H0.length ≤ H.length ∧ post x H) ⟨args ++ undefs (n - args.length), H0 ++ deads n⟩) : Spec P f args H0 post := by
  intro w E cargs hr hargs
  have hE := hr.top
  have hlen := (reps_get hargs).1
  refine calls_of_wp hf hb (wp_mono (codeW_sound (w0 := w) (keep := ⟨fun k => ∀ (r : Nat) (e : Ent), H0[r]? = some e → Liv E r e → E.ρ r ≠ k, E, fun r => ∃ e0 : Ent, H0[r]? = some e0 ∧ Liv E r e0⟩) htb h (E := E) (Rel.mk ?_ ?_ rfl ?_ ?_ (Ext.refl _ _) (fun _ _ h => .inl h) ?_)) ?_)
  · simp [undefs_len, hn, hlen]
  · intro i x hx
    rw [List.getElem?_append] at hx
    split at hx
    · rename_i hi
      obtain ⟨v, hv, hrep⟩ := (reps_get hargs).2 i x hx
      have hlt := (List.getElem?_eq_some_iff.1 hv).1
      have : (cargs.toArray ++ Array.replicate (fn.ntmps - cargs.toArray.size) undef).getD i undef = v := by
        simp only [Array.getD_eq_getD_getElem?]
        rw [Array.getElem?_append_left (by simpa using hlt)]
        simp [hv]
      rw [this]; exact hrep
    · rename_i hi
      have hx' := undefs_get hx
      subst hx'
      rw [rep]
      simp only [Array.getD_eq_getD_getElem?]
      rw [Array.getElem?_append_right (by simp; omega)]
      rw [Array.getElem?_replicate]
      split <;> rfl
  · have hget : ∀ (r : Nat) (e : Ent), (H0 ++ deads n)[r]? = some e → H0[r]? = some e ∨ (H0.length ≤ r ∧ e = ⟨0, .dead⟩) := by
      intro r e he
      rw [List.getElem?_append] at he
      split at he
      · exact .inl he
      · exact .inr ⟨by omega, deads_get he⟩
    refine ⟨?_, ?_, ?_, ?_, hr.zlt, ?_, ?_⟩
    · intro r e he
      rcases hget r e he with h1 | ⟨h1, rfl⟩
      · exact hr.ver r e h1
      · exact (hE r h1).1
    · intro r e he hl
      rcases hget r e he with h1 | ⟨h1, rfl⟩
      · exact hr.ent r e h1 hl
      · cases hl.1
    · intro r e he ha
      rcases hget r e he with h1 | ⟨h1, rfl⟩
      · exact hr.abs r e h1 ha
      · rfl
    · intro r r' e e' he he' hl hl' hρ
      rcases hget r e he with h1 | ⟨h1, rfl⟩
      · rcases hget r' e' he' with h2 | ⟨h2, rfl⟩
        · exact hr.inj r r' e e' h1 h2 hl hl' hρ
        · cases hl'.1
      · cases hl.1
    · intro r e he hl
      rcases hget r e he with h1 | ⟨h1, rfl⟩
      · exact hr.zrow r e h1 hl
      · cases hl.1
    · intro r hr'
      rw [List.length_append] at hr'
      exact hr.top r (by omega)
  · refine ⟨rfl, rfl, rfl, Nat.le_refl _, fun _ _ _ => rfl, fun _ cur T fz h => ⟨cur, T, fz, h, Nat.le_refl _⟩, fun r e he hl _ hk => ?_⟩
    rw [List.getElem?_append] at he
    split at he
    · exact hk r e he hl rfl
    · have := deads_get he; subst this; cases hl.1
  · intro r e he hl
    rw [List.getElem?_append] at he
    split at he
    · exact .inr ⟨⟨e, he, hl⟩, rfl⟩
    · have := deads_get he; subst this; cases hl.1
  · rintro e a w' ⟨ex, s, E', rfl, hR, hQ⟩
    obtain ⟨hex, v, x, h1, h2, h3⟩ := ret_sound htb hrs hQ hR
    have hx : Ext E E' w w' := hR.ext
    rcases hex with rfl | rfl
    · exact ⟨hR.defers, v, h1, v, x, s.H, E', rfl, h3.2, h2, hR.hr, hx, hR.zone, h3.1, hR.rows, hR.fr⟩
    · exact ⟨hR.defers, v, h1, v, x, s.H, E', rfl, h3.2, h2, hR.hr, hx, hR.zone, h3.1, hR.rows, hR.fr⟩
end
end Go.Proofs.Ytjfenbkhgamidaa
