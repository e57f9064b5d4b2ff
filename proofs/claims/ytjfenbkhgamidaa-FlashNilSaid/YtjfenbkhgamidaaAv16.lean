/- Abstract values: a region that draws its order: one order is enough. Conditions: the premises of 'draw_of'. -/
import Derived.Test.YtjfenbkhgamidaaAv15
namespace Go.Proofs.Ytjfenbkhgamidaa
open Go.RowKit
set_option linter.unusedVariables false
def tmpsOf : List Operand → List Tmp
  | [] => []
  | .tmp i :: xs => i :: tmpsOf xs
  | _ :: xs => tmpsOf xs
theorem tmpsOf_mem : ∀ {xs : List Operand} {i : Tmp}, Operand.tmp i ∈ xs → i ∈ tmpsOf xs
  | x :: xs, i, h => by
    rcases List.mem_cons.1 h with h | h
    · subst h; simp [tmpsOf]
    · have := tmpsOf_mem h
      cases x <;> simp [tmpsOf, this]
def looksOf (ops : Array Oper) (o : Oper) : List Tmp := tmpsOf (opnds o.op) ++ (match o.guard with
  | none => []
  | some (j, _) => ((ops[j]?).bind (·.dst)).toList)
def isCall (o : Oper) : Bool := match o.op with
  | .call c => match c.callee with
    | .value _ => true
    | _ => false
  | _ => false
def ownId (p : Nat) : Option Tmp → Option Nat
  | some d => some (p + d)
  | none => none
/-- what an operation may update -/
def okU (V : Nat → Option Ent) (eff : Bool) (own : Option Nat) : Us → Prop
  | [] => True
  | (r, e) :: us => (match eff with
    | true => own = some r ∨ V r ≠ none
    | false => own = some r ∨ V r = some e) ∧ okU V eff own us
def contD (V : Nat → Option Ent) (eff : Bool) (own : Option Nat) (s : St) (dst : Option Tmp) (K : St → Prop) (v : AV) (us : Us) : Prop := okU V eff own us ∧ K ⟨setD s.t dst v, updH s.H us⟩
def stepD (tb : TypeId → Option TI) (p : Nat) (V : Nat → Option Ent) (eff : Bool) (o : Oper) (s : St) (K : St → Prop) : Prop :=
  gpOs s.t (opnds o.op) ∧ stepK tb p o (evA s.t) V fun Φ v us => Φ ∧ okU V eff (ownId p o.dst) us ∧ K ⟨setD s.t o.dst v, updH s.H us⟩
def opDU (tb : TypeId → Option TI) (P : Program) (p : Nat) (V : Nat → Option Ent) (eff : Bool) (o : Oper) (s : St) (K : St → Prop) : Prop := match o.op with
  | .call c => match c.callee with
    | .value f => gpOs s.t (opnds o.op) ∧ callK P (evA s.t f) (c.args.toList.map (evA s.t)) V (contD V eff (ownId p o.dst) s o.dst K)
    | _ => stepD tb p V eff o s K
  | .pick c a b => pickK s.t c a b fun Φ v => Φ ∧ K ⟨setD s.t o.dst v, s.H⟩
  | _ => stepD tb p V eff o s K
def stepDG (tb : TypeId → Option TI) (p : Nat) (V : Nat → Option Ent) (o : Oper) (s : St) (G : Prop) (K : St → Prop) : Prop :=
  stepK tb p o (evA s.t) V fun Φ v us => (G → gpOs s.t (opnds o.op) ∧ Φ) ∧ us = [] ∧ K ⟨setD s.t o.dst (.gd G v), s.H⟩
def opDG (tb : TypeId → Option TI) (P : Program) (p : Nat) (V : Nat → Option Ent) (eff : Bool) (o : Oper) (s : St) (G : Prop) (K : St → Prop) : Prop := match o.op with
  | .call c => match c.callee with
    | .value f => (G → gpOs s.t (opnds o.op) ∧ callK P (evA s.t f) (c.args.toList.map (evA s.t)) V (contD V eff (ownId p o.dst) s o.dst K)) ∧ (¬ G → K ⟨setD s.t o.dst (.gd False .any), s.H⟩)
    | _ => stepDG tb p V o s G K
  | .pick c a b => pickK s.t c a b fun Φ v => (G → Φ) ∧ K ⟨setD s.t o.dst (.gd G v), s.H⟩
  | _ => stepDG tb p V o s G K
def opD (tb : TypeId → Option TI) (P : Program) (p : Nat) (all : List Oper) (V : Nat → Option Ent) (eff : Bool) (o : Oper) (s : St) (K : St → Prop) : Prop := match o.guard with
  | none => opDU tb P p V eff o s K
  | some (j, b) => guardK all s.t j b fun G => opDG tb P p V eff o s G K
section
variable {P : Program}
/-- what an operation does, in any state that looks like this one where it looks -/
def ExP (P : Program) (ops : Array Oper) (o : Oper) (t : List AV) (V : Nat → Option Ent) (post : AV → Us → Prop) : Prop :=
  ∀ (w0 : World) (keep : Bs) (E : Env) (s : St) (a : Act) (w : World) (Q : Exit → Act → World → Prop), Rel w0 keep E s a w → (∀ k ∈ looksOf ops o, getA s.t k = getA t k) → (∀ (r : Nat) (e : Ent), V r = some e → s.H[r]? = some e) →
    (Region.wanted o (yielded ops a.tmps) = true ∧ o.wp P a w (fun a' w' => ∃ v us E', post v us ∧ Rel w0 keep E' ⟨setD s.t o.dst v, updH s.H us⟩ a' w') Q) ∨
    (Region.wanted o (yielded ops a.tmps) = false ∧ ∃ v us, post v us ∧ Rel w0 keep E ⟨setD s.t o.dst v, updH s.H us⟩ (a.put o.dst undef) w)
theorem ev_look {ops : Array Oper} {o : Oper} {s : St} {t : List AV} (h : ∀ k ∈ looksOf ops o, getA s.t k = getA t k) {x : Operand} (hx : x ∈ opnds o.op) : evA s.t x = evA t x ∧ (gpO s.t x ↔ gpO t x) := by
  cases x with
  | tmp i =>
    have := h i (List.mem_append_left _ (tmpsOf_mem hx))
    simp only [evA, gpO, this, and_self]
  | _ => exact ⟨rfl, Iff.rfl⟩
theorem ops_look {ops : Array Oper} {o : Oper} {s : St} {t : List AV} {w0 : World} {keep : Bs} {E : Env} {a : Act} {w : World} (hR : Rel w0 keep E s a w) (h : ∀ k ∈ looksOf ops o, getA s.t k = getA t k) (hg : gpOs t (opnds o.op)) :
    ∀ x ∈ opnds o.op, rep E w (evA t x) (a.eval x) := by
  intro x hx
  obtain ⟨h1, h2⟩ := ev_look h hx
  rw [← h1]
  exact hR.opnd (h2.2 (gpOs_mem hg x hx))
theorem wp_of_runs' {w0 : World} {keep : Bs} {o : Oper} {a : Act} {w w' : World} {cv : Value} {E E' : Env} {s : St} {v : AV} {us : Us} {post : AV → Us → Prop} {Q : Exit → Act → World → Prop} (hR : Rel w0 keep E s a w) (h : RunsTo P o a.eval w cv w') (hv : rep E' w' v cv) (ho : Out E E' w w' s.H us) (hp : post v us) :
    o.wp P a w (fun a' w' => ∃ v us E', post v us ∧ Rel w0 keep E' ⟨setD s.t o.dst v, updH s.H us⟩ a' w') Q :=
  wp_of_runs h ⟨v, us, E', hp, hR.put ho hv⟩
theorem call_ex {ops : Array Oper} {o : Oper} {c : Call} {f : Operand} (ho : o.op = .call c) (hc : c.callee = .value f) {t : List AV} {V : Nat → Option Ent} {K : AV → Us → Prop} (hgp : gpOs t (opnds o.op)) (h : callK P (evA t f) (c.args.toList.map (evA t)) V K) :
    ∃ post : AV → Us → Prop, (∀ v us, post v us → K v us) ∧ ∀ (w0 : World) (keep : Bs) (E : Env) (s : St) (a : Act) (w : World) (Q : Exit → Act → World → Prop), Rel w0 keep E s a w → (∀ k ∈ looksOf ops o, getA s.t k = getA t k) → (∀ (r : Nat) (e : Ent), V r = some e → s.H[r]? = some e) →
      o.wp P a w (fun a' w' => ∃ v us E', post v us ∧ Rel w0 keep E' ⟨setD s.t o.dst v, updH s.H us⟩ a' w') Q := by
  unfold callK at h
  obtain ⟨fn, caps, hf, post, hcall, hpost⟩ := h
  refine ⟨post, hpost, fun w0 keep E s a w Q hR hlook hV => ?_⟩
  have hops := ops_look hR hlook hgp
  rw [ho] at hops
  simp only [opnds, hc] at hops
  have hfv := hops f (by simp)
  rw [hf, rep] at hfv
  obtain ⟨cs, hfv, hcs⟩ := hfv
  have hargs : reps E w (c.args.toList.map (evA t)) (c.args.toList.map a.eval) := reps_map _ (fun x hx => hops x (by simp [hx]))
  exact wp_callW ho hc hfv (hcall E s.H w _ hR.hr hV (reps_append hargs hcs)) fun v w' ⟨x, us, E', hp, hv, hout⟩ => ⟨x, us, E', hp, hR.put hout hv⟩
theorem pick_look {ops : Array Oper} {o : Oper} {c x y : Operand} (ho : o.op = .pick c x y) {t : List AV} {K : Prop → AV → Prop} (h : pickK t c x y K) : ∃ Φ v, K Φ v ∧ (Φ → ∀ {w0 : World} {keep : Bs} {E : Env} {s : St} {act : Act} {w : World}, Rel w0 keep E s act w → (∀ k ∈ looksOf ops o, getA s.t k = getA t k) →
    ∃ q : Bool, act.eval c = .bool q ∧ rep E w v (if q then act.eval x else act.eval y)) := by
  have hm : ∀ {s : St}, (∀ k ∈ looksOf ops o, getA s.t k = getA t k) → ∀ z ∈ [c, x, y], evA s.t z = evA t z ∧ (gpO s.t z ↔ gpO t z) := fun {s} h z hz => ev_look h (by rw [ho]; exact hz)
  unfold pickK at h
  split at h
  rotate_left
  · exact h.elim
  rename_i q hc
  have hcv : ∀ {w0 : World} {keep : Bs} {E : Env} {s : St} {act : Act} {w : World}, Rel w0 keep E s act w → (∀ k ∈ looksOf ops o, getA s.t k = getA t k) → gpO t c → act.eval c = .bool q := by
    intro w0 keep E s act w hR hl hg
    obtain ⟨h1, h2⟩ := hm hl c (by simp)
    have := hR.opnd (h2.2 hg)
    rw [h1, hc] at this
    exact rep_val this
  have hop : ∀ {w0 : World} {keep : Bs} {E : Env} {s : St} {act : Act} {w : World}, Rel w0 keep E s act w → (∀ k ∈ looksOf ops o, getA s.t k = getA t k) → ∀ z ∈ [c, x, y], gpO t z → rep E w (evA t z) (act.eval z) := by
    intro w0 keep E s act w hR hl z hz hg
    obtain ⟨h1, h2⟩ := hm hl z hz
    rw [← h1]; exact hR.opnd (h2.2 hg)
  split at h
  · refine ⟨_, _, h, fun p w0 keep E s act w hR hl => ⟨q, hcv hR hl p.1, ?_⟩⟩
    rw [p.2.1]; exact hop hR hl x (by simp) p.2.2
  · rename_i vy hb
    split at h
    · rename_i vx ha
      refine ⟨_, _, h, fun p w0 keep E s act w hR hl => ⟨q, hcv hR hl p.1, ?_⟩⟩
      obtain ⟨p1, p2, p3⟩ := p
      have key : (if q then act.eval x else act.eval y) = .bool (if q then vx else vy) := by
        cases q with
        | true => have := hop hR hl x (by simp) (p2 rfl); rw [ha] at this; simpa using rep_val this
        | false => have := hop hR hl y (by simp) (p3 rfl); rw [hb] at this; simpa using rep_val this
      rw [key, rep]
      congr 1
      exact (pickB_eq ha hb).symm
    · refine ⟨_, _, h, fun p w0 keep E s act w hR hl => ⟨q, hcv hR hl p.1, ?_⟩⟩
      rw [p.2.1]; exact hop hR hl y (by simp) p.2.2
    · exact h.elim
  · exact h.elim
theorem guard_look {ops : Array Oper} {o : Oper} {t : List AV} {j : Nat} {b : Bool} (ho : o.guard = some (j, b)) {K : Prop → Prop} (h : guardK ops.toList t j b K) : ∃ G, K G ∧ ∀ {w0 : World} {keep : Bs} {E : Env} {s : St} {a : Act} {w : World}, Rel w0 keep E s a w → (∀ k ∈ looksOf ops o, getA s.t k = getA t k) →
    (G → Region.wanted o (yielded ops a.tmps) = true) ∧ (¬ G → Region.wanted o (yielded ops a.tmps) = false) := by
  unfold guardK at h
  split at h
  · exact h.elim
  rename_i oj hoj
  split at h
  · exact h.elim
  rename_i d hd
  rw [getN_eq] at hoj
  have hbind : (ops[j]?).bind (·.dst) = some d := by
    have : ops[j]? = some oj := by simpa using hoj
    rw [this]; exact hd
  have hlk : d ∈ looksOf ops o := by
    unfold looksOf
    rw [ho]
    exact List.mem_append_right _ (by simp [hbind])
  split at h
  · rename_i q hq
    refine ⟨_, h, fun {w0 keep E s a w} hR hl => ?_⟩
    have hv := hR.get d
    rw [hl d hlk, hq] at hv
    have hy := yielded_bool hbind (rep_val hv)
    exact ⟨fun hG => wanted_yes ho (by rw [hy, hG]), fun hG => wanted_no ho (by rw [hy]; simpa using hG)⟩
  · rename_i φ x hq
    split at h
    · rename_i q
      refine ⟨_, h, fun {w0 keep E s a w} hR hl => ?_⟩
      have hv := hR.get d
      rw [hl d hlk, hq, rep] at hv
      by_cases hφ : φ
      · have hy := yielded_bool hbind (rep_val (hv.1 hφ))
        exact ⟨fun hG => wanted_yes ho (by rw [hy, hG.2]), fun hG => wanted_no ho (by rw [hy]; intro e; exact hG ⟨hφ, by simpa using e⟩)⟩
      · have hy := yielded_undef hbind (hv.2 hφ)
        exact ⟨fun hG => absurd hG.1 hφ, fun hG => wanted_no ho (by rw [hy]; simp)⟩
    · exact h.elim
  · exact h.elim
/-- an operation's data -/
theorem opD_data {tb : TypeId → Option TI} (htb : TbOk P tb) {p : Nat} {ops : Array Oper} {V : Nat → Option Ent} {eff : Bool} {o : Oper} {s0 : St} {K : St → Prop} (h : opD tb P p ops.toList V eff o s0 K) :
    ∃ post : AV → Us → Prop, (∀ v us, post v us → okU V eff (ownId p o.dst) us ∧ K ⟨setD s0.t o.dst v, updH s0.H us⟩) ∧ ExP P ops o s0.t V post ∧ (isCall o = false → ∃ v us, post = fun v' us' => v' = v ∧ us' = us) := by
  have one : ∀ {v : AV} {us : Us}, okU V eff (ownId p o.dst) us → K ⟨setD s0.t o.dst v, updH s0.H us⟩ → ExP P ops o s0.t V (fun v' us' => v' = v ∧ us' = us) →
      ∃ post : AV → Us → Prop, (∀ v us, post v us → okU V eff (ownId p o.dst) us ∧ K ⟨setD s0.t o.dst v, updH s0.H us⟩) ∧ ExP P ops o s0.t V post ∧ (isCall o = false → ∃ v us, post = fun v' us' => v' = v ∧ us' = us) := by
    intro v us h1 h2 h3
    exact ⟨_, fun v' us' ⟨e1, e2⟩ => by subst e1; subst e2; exact ⟨h1, h2⟩, h3, fun _ => ⟨v, us, rfl⟩⟩
  unfold opD at h
  split at h
  · rename_i hg
    have hwant : ∀ tm, Region.wanted o (yielded ops tm) = true := fun tm => by unfold Region.wanted; simp only [hg]
    have stp : stepD tb p V eff o s0 K → ∃ post : AV → Us → Prop, (∀ v us, post v us → okU V eff (ownId p o.dst) us ∧ K ⟨setD s0.t o.dst v, updH s0.H us⟩) ∧ ExP P ops o s0.t V post ∧ (isCall o = false → ∃ v us, post = fun v' us' => v' = v ∧ us' = us) := by
      rintro ⟨hgp, h⟩
      obtain ⟨Φ, v, us, ⟨hΦ, hok, hK⟩, hs⟩ := stepK_sound htb h
      refine one hok hK fun w0 keep E s a w Q hR hl hV => .inl ⟨hwant _, ?_⟩
      obtain ⟨cv, w', E', h1, h2, h3⟩ := hs hΦ E s.H w a.eval hR.hr hV (ops_look hR hl hgp)
      exact wp_of_runs' hR h1 h2 h3 ⟨rfl, rfl⟩
    unfold opDU at h
    split at h
    · rename_i c hop
      split at h
      · rename_i f hc
        obtain ⟨post, hpost, hex⟩ := call_ex (ops := ops) hop hc h.1 h.2
        refine ⟨post, hpost, fun w0 keep E s a w Q hR hl hV => .inl ⟨hwant _, hex w0 keep E s a w Q hR hl hV⟩, fun hcl => ?_⟩
        simp [isCall, hop, hc] at hcl
      · exact stp h
    · rename_i c x y hop
      obtain ⟨Φ, v, ⟨hΦ, hK⟩, hv⟩ := pick_look (ops := ops) hop h
      refine one (us := []) trivial hK fun w0 keep E s a w Q hR hl hV => .inl ⟨hwant _, ?_⟩
      obtain ⟨q, h1, h2⟩ := hv hΦ hR hl
      exact wp_of_runs' hR (.inl (run_pick hop h1 w)) h2 (Out.same hR.hr) ⟨rfl, rfl⟩
    · exact stp h
  · rename_i j b hg
    obtain ⟨G, h, hw⟩ := guard_look hg h
    have stp : stepDG tb p V o s0 G K → ∃ post : AV → Us → Prop, (∀ v us, post v us → okU V eff (ownId p o.dst) us ∧ K ⟨setD s0.t o.dst v, updH s0.H us⟩) ∧ ExP P ops o s0.t V post ∧ (isCall o = false → ∃ v us, post = fun v' us' => v' = v ∧ us' = us) := by
      intro h
      obtain ⟨Φ, v, us, ⟨hΦ, hus, hK⟩, hs⟩ := stepK_sound htb h
      subst hus
      refine one (us := []) trivial hK fun w0 keep E s a w Q hR hl hV => ?_
      obtain ⟨hw1, hw2⟩ := hw hR hl
      by_cases hG : G
      · obtain ⟨hgp, hΦ⟩ := hΦ hG
        obtain ⟨cv, w', E', h1, h2, h3⟩ := hs hΦ E s.H w a.eval hR.hr hV (ops_look hR hl hgp)
        exact .inl ⟨hw1 hG, wp_of_runs' hR h1 (rep_gd_yes hG h2) h3 ⟨rfl, rfl⟩⟩
      · exact .inr ⟨hw2 hG, _, _, ⟨rfl, rfl⟩, hR.put (Out.same hR.hr) (rep_gd_no hG)⟩
    unfold opDG at h
    split at h
    · rename_i c hop
      split at h
      · rename_i f hc
        by_cases hG : G
        · obtain ⟨hgp, h⟩ := h.1 hG
          obtain ⟨post, hpost, hex⟩ := call_ex (ops := ops) hop hc hgp h
          refine ⟨post, hpost, fun w0 keep E s a w Q hR hl hV => .inl ⟨(hw hR hl).1 hG, hex w0 keep E s a w Q hR hl hV⟩, fun hcl => ?_⟩
          simp [isCall, hop, hc] at hcl
        · exact one (us := []) trivial (h.2 hG) fun w0 keep E s a w Q hR hl hV => .inr ⟨(hw hR hl).2 hG, _, _, ⟨rfl, rfl⟩, hR.put (Out.same hR.hr) (rep_gd_no (fun h => h))⟩
      · exact stp h
    · rename_i c x y hop
      obtain ⟨Φ, v, ⟨hΦ, hK⟩, hv⟩ := pick_look (ops := ops) hop h
      refine one (us := []) trivial hK fun w0 keep E s a w Q hR hl hV => ?_
      obtain ⟨hw1, hw2⟩ := hw hR hl
      by_cases hG : G
      · obtain ⟨q, h1, h2⟩ := hv (hΦ hG) hR hl
        exact .inl ⟨hw1 hG, wp_of_runs' hR (.inl (run_pick hop h1 w)) (rep_gd_yes hG h2) (Out.same hR.hr) ⟨rfl, rfl⟩⟩
      · exact .inr ⟨hw2 hG, _, _, ⟨rfl, rfl⟩, hR.put (Out.same hR.hr) (rep_gd_no hG)⟩
    · exact stp h
end
end Go.Proofs.Ytjfenbkhgamidaa
