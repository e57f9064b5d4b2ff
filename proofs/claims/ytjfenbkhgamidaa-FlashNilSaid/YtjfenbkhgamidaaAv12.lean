/- Abstract values: whole functions: regions in the order of the text, code, loops. Conditions: what 'TIok' says of the types. -/
import Derived.Test.YtjfenbkhgamidaaAv11
import Derived.Test.YtjfenbkhgamidaaRg
import Derived.Scope
namespace Go.Proofs.Ytjfenbkhgamidaa
open Go.RowKit
set_option linter.unusedVariables false
structure St : Type 1 where
  t : List AV
  H : List Ent
/-- where a call began: what it keeps, and what the addresses were -/
structure Bs where
  keep : Nat → Prop
  E0 : Env
  old : Nat → Prop
structure Rel (w0 : World) (keep : Bs) (E : Env) (s : St) (a : Act) (w : World) : Prop where
  len : s.t.length = a.tmps.size
  tmps : ∀ (i : Nat) (x : AV), s.t[i]? = some x → rep E w x (a.tmps.getD i undef)
  defers : a.defers = []
  hr : HR E w s.H
  fr : Fr w0 keep.keep E s.H w
  ext : Ext keep.E0 E w0 w
  zone : ∀ z b, E.zone z b → keep.E0.zone z b ∨ w0.heap.size ≤ b
  rows : ∀ (r : Nat) (e : Ent), s.H[r]? = some e → Liv E r e → w0.heap.size ≤ E.ρ r ∨ (keep.old r ∧ E.ρ r = keep.E0.ρ r)
def constA : Value → AV
  | .agg cs => .agg (cs.toList.map .val)
  | .tuple cs => .tup (cs.toList.map .val)
  | v => .val v
theorem rep_const (E : Env) (w : World) (v : Value) : rep E w (constA v) v := by
  cases v <;> simp only [constA, rep]
  · exact ⟨_, by simp, reps_vals _⟩
  · exact ⟨_, by simp, reps_vals _⟩
def gpA : AV → Prop
  | .gd φ _ => φ
  | _ => True
def unA : AV → AV
  | .gd _ x => x
  | x => x
theorem rep_un {E : Env} {w : World} {x : AV} {v : Value} (h : rep E w x v) (hg : gpA x) : rep E w (unA x) v := by
  cases x <;> simp only [unA] <;> try exact h
  rw [rep] at h; exact h.1 hg
def evA (t : List AV) : Operand → AV
  | .tmp i => unA (getA t i)
  | .const v => constA v
  | .func f => .clo f []
  | .global _ => .any
def gpO (t : List AV) : Operand → Prop
  | .tmp i => gpA (getA t i)
  | _ => True
def gpOs (t : List AV) : List Operand → Prop
  | [] => True
  | x :: xs => gpO t x ∧ gpOs t xs
def setD (t : List AV) : Option Tmp → AV → List AV
  | none, _ => t
  | some d, v => setL t d v
section
variable {P : Program} {w0 : World} {keep : Bs}
theorem Rel.get {E : Env} {s : St} {a : Act} {w : World} (h : Rel w0 keep E s a w) (i : Nat) : rep E w (getA s.t i) (a.tmps.getD i undef) := by
  unfold getA
  rw [getL_eq]
  cases hi : s.t[i]? with
  | none => simp only [rep]
  | some x => exact h.tmps i x hi
theorem Rel.opnd {E : Env} {s : St} {a : Act} {w : World} (h : Rel w0 keep E s a w) {x : Operand} (hx : gpO s.t x) : rep E w (evA s.t x) (a.eval x) := by
  cases x with
  | tmp i => exact rep_un (h.get i) hx
  | const v => exact rep_const E w v
  | func f => simp only [evA, rep, Act.eval]; exact ⟨[], rfl, by simp [reps]⟩
  | global g => simp only [evA, rep]
theorem gpOs_mem {t : List AV} : ∀ {xs : List Operand}, gpOs t xs → ∀ x ∈ xs, gpO t x
  | y :: xs, h, x, hx => by
    rcases List.mem_cons.1 hx with rfl | hx
    · exact h.1
    · exact gpOs_mem h.2 x hx
theorem Rel.put {E E' : Env} {s : St} {a : Act} {w w' : World} (h : Rel w0 keep E s a w) {us : List (Nat × Ent)} (o : Out E E' w w' s.H us) {dst : Option Tmp} {x : AV} {v : Value} (hv : rep E' w' x v) : Rel w0 keep E' ⟨setD s.t dst x, updH s.H us⟩ (a.put dst v) w' := by
  refine ⟨?_, ?_, ?_, o.hr, h.fr.out o, h.ext.trans o.ext, fun z b hz => ?_, fun r e hr hl => ?_⟩
  · cases dst <;> simp [setD, Act.put, setL_eq, h.len]
  · intro i y hy
    cases dst with
    | none => exact rep_ext o.ext y _ (h.tmps i y hy)
    | some d =>
      simp only [setD, setL_eq] at hy
      by_cases hi : d = i
      · subst hi
        have hlt : d < s.t.length := by have := (List.getElem?_eq_some_iff.1 hy).1; simpa using this
        rw [List.getElem?_set_self hlt] at hy
        cases hy
        have : d < a.tmps.size := by rw [← h.len]; exact hlt
        rw [put_same a v this]; exact hv
      · rw [List.getElem?_set_ne hi] at hy
        rw [put_other a v (by simp; exact hi)]
        exact rep_ext o.ext y _ (h.tmps i y hy)
  · cases dst <;> exact h.defers
  · rcases o.zone z b hz with h1 | h1
    · exact h.zone z b h1
    · have := h.fr.size; right; omega
  · rcases o.rows r e hr hl with h1 | ⟨h1, e0, h2, h3⟩
    · have := h.fr.size; left; omega
    · rw [h1]; exact h.rows r e0 h2 h3

/-! calls -/
/-- a function that is entered, or one of the model's own -/
def CallW (P : Program) (f : FuncId) (as : Array Value) (w : World) (R : Value → World → Prop) : Prop :=
  ((callFunc f as).run P w = .ok (.enter f as) w ∧ Calls P f as w fun e w' => ∃ v, e = .returned v ∧ R v w') ∨
  ∃ v w', (callFunc f as).run P w = .ok (.value v) w' ∧ R v w'
def CallSem (P : Program) (f : FuncId) (args : List AV) (hg : Nat → Option Ent) (post : AV → List (Nat × Ent) → Prop) : Prop :=
  ∀ (E : Env) (H : List Ent) (w : World) (cargs : List Value), HR E w H → (∀ (r : Nat) (e : Ent), hg r = some e → H[r]? = some e) → reps E w args cargs →
    CallW P f cargs.toArray w fun v w' => ∃ x us E', post x us ∧ rep E' w' x v ∧ Out E E' w w' H us
theorem wp_callW {P : Program} {o : Oper} {c : Call} {f : Operand} (ho : o.op = .call c) (hc : c.callee = .value f) {a : Act} {fn : FuncId} {cs : List Value} (hfv : a.eval f = .func (.func fn) #[] cs.toArray) {w : World} {R : Value → World → Prop}
    (h : CallW P fn (c.args.toList.map a.eval ++ cs).toArray w R) {K : Act → World → Prop} {Q : Exit → Act → World → Prop} (hK : ∀ v w', R v w' → K (a.put o.dst v) w') : o.wp P a w K Q := by
  have e1 : execOp a.eval o = callFunc fn (c.args.toList.map a.eval ++ cs).toArray := by
    have e2 : execOp a.eval o = callFunc fn (#[] ++ c.args.map a.eval ++ cs.toArray) := by
      obtain ⟨dst, op, type, pos, after, guard⟩ := o
      simp only at ho
      subst ho
      obtain ⟨cal, args, ts⟩ := c
      simp only at hc
      subst hc
      unfold execOp
      simp only [resolve, hfv]
      rfl
    rw [e2]
    congr 1
    apply Array.ext'
    simp
  rcases h with ⟨h1, h2⟩ | ⟨v, w', h1, h2⟩
  · unfold Oper.wp
    rw [e1, h1]
    refine Calls.mono h2 fun e w' ⟨v, he, hr⟩ => ?_
    subst he
    exact hK v w' hr
  · exact wp_val (by rw [e1, h1]) (hK v w' h2)
@[irreducible] def callK (P : Program) (x : AV) (args : List AV) (hg : Nat → Option Ent) (K : AV → List (Nat × Ent) → Prop) : Prop :=
  ∃ f caps, x = .clo f caps ∧ ∃ post, CallSem P f (args ++ caps) hg post ∧ ∀ v us, post v us → K v us
def contU (s : St) (dst : Option Tmp) (K : St → Prop) (v : AV) (us : List (Nat × Ent)) : Prop := K ⟨setD s.t dst v, updH s.H us⟩

/-! one operation -/
def pickB (a b : Operand) (q x y : Bool) : Bool := match a with
  | .const (.bool true) => q || y
  | _ => match b with
    | .const (.bool false) => q && x
    | _ => (q && x) || (!q && y)
def pickK (t : List AV) (c a b : Operand) (K : Prop → AV → Prop) : Prop := match evA t c with
  | .val (.bool q) => match evA t b with
    | .any => K (gpO t c ∧ q = true ∧ gpO t a) (evA t a)
    | .val (.bool y) => match evA t a with
      | .val (.bool x) => K (gpO t c ∧ (q = true → gpO t a) ∧ (q = false → gpO t b)) (.val (.bool (pickB a b q x y)))
      | .any => K (gpO t c ∧ q = false ∧ gpO t b) (evA t b)
      | _ => False
    | _ => False
  | _ => False
def stepU (tb : TypeId → Option TI) (p : Nat) (o : Oper) (s : St) (K : St → Prop) : Prop :=
  gpOs s.t (opnds o.op) ∧ stepK tb p o (evA s.t) (getL s.H) fun Φ v us => Φ ∧ K ⟨setD s.t o.dst v, updH s.H us⟩
/-- a slice held against nil: of one that may be empty it is not known -/
def nilB (tb : TypeId → Option TI) (hg : Nat → Option Ent) (T : TypeId) (x y : AV) (A : Prop) (K : Prop → Nat → Prop) : Prop := match y with
  | .val (.slice none 0 0) => match tb T with
    | some ti => match ti.u with
      | .slice _ => match x with
        | .own r ver sz off n => curK hg r ver fun Ψ => K Ψ n
        | .bs _ l => K True l.length
        | .sl _ _ _ _ l => K True l.length
        | _ => A
      | _ => A
    | none => A
  | _ => A
def allB (n : Nat) (K : Bool → Prop) : Prop := ∀ b : Bool, (b = true → n = 0) → K b
def opU (tb : TypeId → Option TI) (P : Program) (p : Nat) (o : Oper) (s : St) (K : St → Prop) : Prop := match o.op with
  | .call c => match c.callee with
    | .value f => gpOs s.t (opnds o.op) ∧ callK P (evA s.t f) (c.args.toList.map (evA s.t)) (getL s.H) (contU s o.dst K)
    | _ => stepU tb p o s K
  | .pick c a b => pickK s.t c a b fun Φ v => Φ ∧ K ⟨setD s.t o.dst v, s.H⟩
  | .binOp op T x y _ => match op with
    | .eql => nilB tb (getL s.H) T (evA s.t x) (evA s.t y) (stepU tb p o s K) fun Φ n => (gpOs s.t (opnds o.op) ∧ Φ) ∧ allB n fun b => K ⟨setD s.t o.dst (.val (.bool b)), s.H⟩
    | .neq => nilB tb (getL s.H) T (evA s.t x) (evA s.t y) (stepU tb p o s K) fun Φ n => (gpOs s.t (opnds o.op) ∧ Φ) ∧ allB n fun b => K ⟨setD s.t o.dst (.val (.bool (!b))), s.H⟩
    | _ => stepU tb p o s K
  | _ => stepU tb p o s K
/-- an operand that is known not to be there -/
def anyG (t : List AV) : List Operand → Prop → Prop → Prop
  | [], _, B => B
  | x :: xs, A, B => match x with
    | .tmp i => match getA t i with
      | .gd _ y => match y with
        | .any => A
        | _ => anyG t xs A B
      | _ => anyG t xs A B
    | _ => anyG t xs A B
theorem anyG_or {t : List AV} {A B : Prop} : ∀ {l : List Operand}, anyG t l A B → A ∨ B
  | [], h => .inr h
  | x :: xs, h => by
    unfold anyG at h
    split at h
    · split at h
      · split at h
        · exact .inl h
        · exact anyG_or h
      · exact anyG_or h
    · exact anyG_or h
def opG (tb : TypeId → Option TI) (P : Program) (p : Nat) (o : Oper) (s : St) (G : Prop) (K : St → Prop) : Prop := match o.op with
  | .call c => match c.callee with
    | .value f => (G → gpOs s.t (opnds o.op) ∧ callK P (evA s.t f) (c.args.toList.map (evA s.t)) (getL s.H) (contU s o.dst K)) ∧ (¬ G → K ⟨setD s.t o.dst (.gd False .any), s.H⟩)
    | _ => anyG s.t (opnds o.op) (¬ G ∧ K ⟨setD s.t o.dst (.gd False .any), s.H⟩) (stepK tb p o (evA s.t) (getL s.H) fun Φ v us => (G → gpOs s.t (opnds o.op) ∧ Φ) ∧ us = [] ∧ K ⟨setD s.t o.dst (.gd G v), s.H⟩)
  | .pick c a b => pickK s.t c a b fun Φ v => (G → Φ) ∧ K ⟨setD s.t o.dst (.gd G v), s.H⟩
  | _ => anyG s.t (opnds o.op) (¬ G ∧ K ⟨setD s.t o.dst (.gd False .any), s.H⟩) (stepK tb p o (evA s.t) (getL s.H) fun Φ v us => (G → gpOs s.t (opnds o.op) ∧ Φ) ∧ us = [] ∧ K ⟨setD s.t o.dst (.gd G v), s.H⟩)
def guardK (all : List Oper) (t : List AV) (j : Nat) (b : Bool) (K : Prop → Prop) : Prop := match getN all j with
  | none => False
  | some oj => match oj.dst with
    | none => False
    | some d => match getA t d with
      | .val (.bool q) => K (q = b)
      | .gd φ x => match x with
        | .val (.bool q) => K (φ ∧ q = b)
        | _ => False
      | _ => False
def opW (tb : TypeId → Option TI) (P : Program) (p : Nat) (all : List Oper) (o : Oper) (s : St) (K : St → Prop) : Prop := match o.guard with
  | none => opU tb P p o s K
  | some (j, b) => guardK all s.t j b fun G => opG tb P p o s G K
def opsW (tb : TypeId → Option TI) (P : Program) (p : Nat) (all : List Oper) : List Oper → (St → Prop) → St → Prop
  | [], Q, s => Q s
  | o :: rest, Q, s => opW tb P p all o s (opsW tb P p all rest Q)

theorem pickB_eq {t : List AV} {a b : Operand} {q x y : Bool} (ha : evA t a = .val (.bool x)) (hb : evA t b = .val (.bool y)) : pickB a b q x y = (if q then x else y) := by
  unfold pickB
  split
  · have h : AV.val (.bool true) = AV.val (.bool x) := ha
    simp only [AV.val.injEq, Value.bool.injEq] at h
    subst h; cases q <;> simp
  · split
    · have h : AV.val (.bool false) = AV.val (.bool y) := hb
      simp only [AV.val.injEq, Value.bool.injEq] at h
      subst h; cases q <;> simp
    · cases q <;> simp
theorem pickK_sound {t : List AV} {c a b : Operand} {K : Prop → AV → Prop} (h : pickK t c a b K) : ∃ Φ v, K Φ v ∧ (Φ → ∀ {E : Env} {s : St} {act : Act} {w : World}, s.t = t → Rel w0 keep E s act w →
    ∃ q : Bool, act.eval c = .bool q ∧ rep E w v (if q then act.eval a else act.eval b)) := by
  unfold pickK at h
  split at h
  rotate_left
  · exact h.elim
  rename_i q hc
  have hcv : ∀ {E : Env} {s : St} {act : Act} {w : World}, s.t = t → Rel w0 keep E s act w → gpO t c → act.eval c = .bool q := by
    intro E s act w hs hR hg
    subst hs
    have := hR.opnd hg
    rw [hc] at this
    exact rep_val this
  split at h
  · refine ⟨_, _, h, fun p E s act w hs hR => ⟨q, hcv hs hR p.1, ?_⟩⟩
    subst hs
    rw [p.2.1]; exact hR.opnd p.2.2
  · rename_i y hb
    split at h
    · rename_i x ha
      refine ⟨_, _, h, fun p E s act w hs hR => ⟨q, hcv hs hR p.1, ?_⟩⟩
      obtain ⟨p1, p2, p3⟩ := p
      subst hs
      have key : (if q then act.eval a else act.eval b) = .bool (if q then x else y) := by
        cases q with
        | true => have := hR.opnd (p2 rfl); rw [ha] at this; simpa using rep_val this
        | false => have := hR.opnd (p3 rfl); rw [hb] at this; simpa using rep_val this
      rw [key, rep]
      congr 1
      exact (pickB_eq ha hb).symm
    · refine ⟨_, _, h, fun p E s act w hs hR => ⟨q, hcv hs hR p.1, ?_⟩⟩
      subst hs
      rw [p.2.1]; exact hR.opnd p.2.2
    · exact h.elim
  · exact h.elim
theorem run_pick {o : Oper} {ρv : Operand → Value} {c a b : Operand} (ho : o.op = .pick c a b) {q : Bool} (hq : ρv c = .bool q) (w : World) : (execOp ρv o).run P w = .ok (.value (if q then ρv a else ρv b)) w := by
  unfold execOp
  simp [ho, hq, asBool]
theorem wp_of_runs {o : Oper} {a : Act} {w w' : World} {cv : Value} {K : Act → World → Prop} {Q : Exit → Act → World → Prop} (h : RunsTo P o a.eval w cv w') (hK : K (a.put o.dst cv) w') : o.wp P a w K Q := by
  rcases h with h | ⟨h, rfl⟩
  · exact wp_val h hK
  · unfold Oper.wp; rw [h]; exact hK
theorem stepU_sound {tb : TypeId → Option TI} (htb : TbOk P tb) {p : Nat} {o : Oper} {s : St} {K : St → Prop} (h : stepU tb p o s K) {E : Env} {a : Act} {w : World} (hR : Rel w0 keep E s a w) {Q : Exit → Act → World → Prop} :
    o.wp P a w (fun a' w' => ∃ s' E', Rel w0 keep E' s' a' w' ∧ K s') Q := by
  obtain ⟨hg, h⟩ := h
  obtain ⟨Φ, v, us, ⟨hΦ, hK⟩, hs⟩ := stepK_sound htb h
  obtain ⟨cv, w', E', h1, h2, h3⟩ := hs hΦ E s.H w a.eval hR.hr (fun r e he => by rw [← getL_eq]; exact he) (fun x hx => hR.opnd (gpOs_mem hg x hx))
  exact wp_of_runs h1 ⟨_, E', hR.put h3 h2, hK⟩
theorem callU_sound {p : Nat} {o : Oper} {c : Call} {f : Operand} (ho : o.op = .call c) (hc : c.callee = .value f) {s : St} {K : St → Prop} (hgp : gpOs s.t (opnds o.op)) (h : callK P (evA s.t f) (c.args.toList.map (evA s.t)) (getL s.H) (contU s o.dst K)) {E : Env} {a : Act} {w : World} (hR : Rel w0 keep E s a w) {Q : Exit → Act → World → Prop} :
    o.wp P a w (fun a' w' => ∃ s' E', Rel w0 keep E' s' a' w' ∧ K s') Q := by
  unfold callK at h
  obtain ⟨fn, caps, hf, post, hcall, hpost⟩ := h
  have hops : ∀ x ∈ opnds o.op, rep E w (evA s.t x) (a.eval x) := fun x hx => hR.opnd (gpOs_mem hgp x hx)
  rw [ho] at hops
  simp only [opnds, hc] at hops
  have hfv := hops f (by simp)
  rw [hf, rep] at hfv
  obtain ⟨cs, hfv, hcs⟩ := hfv
  have hargs : reps E w (c.args.toList.map (evA s.t)) (c.args.toList.map a.eval) := reps_map _ (fun x hx => hops x (by simp [hx]))
  exact wp_callW ho hc hfv (hcall E s.H w _ hR.hr (fun r e he => by rw [← getL_eq]; exact he) (reps_append hargs hcs)) fun v w' ⟨x, us, E', hp, hv, hout⟩ => ⟨_, E', hR.put hout hv, hpost x us hp⟩
theorem pickU_sound {o : Oper} {c x y : Operand} (ho : o.op = .pick c x y) {Φ : Prop} {v : AV} {s : St} {K : St → Prop} {E : Env} {a : Act} {w : World} (hR : Rel w0 keep E s a w) (hv : ∃ q : Bool, a.eval c = .bool q ∧ rep E w v (if q then a.eval x else a.eval y)) (hK : K ⟨setD s.t o.dst v, s.H⟩) {Q : Exit → Act → World → Prop} :
    o.wp P a w (fun a' w' => ∃ s' E', Rel w0 keep E' s' a' w' ∧ K s') Q := by
  obtain ⟨q, h1, h2⟩ := hv
  exact wp_val (run_pick ho h1 w) ⟨_, E, hR.put (Out.same hR.hr) h2, hK⟩
theorem nilB_sound {tb : TypeId → Option TI} (htb : TbOk P tb) {hg : Nat → Option Ent} {T : TypeId} {x y : AV} {A : Prop} {K : Prop → Nat → Prop} (h : nilB tb hg T x y A K) : A ∨ (∃ E0 Φ n, P.underlying T = some (.slice E0) ∧ K Φ n ∧
    (Φ → ∀ (E : Env) (H : List Ent) (w : World) (u v : Value), HR E w H → (∀ (r : Nat) (e : Ent), hg r = some e → H[r]? = some e) → rep E w x u → rep E w y v → v = .slice none 0 0 ∧ ∃ a m c, u = .slice a m c ∧ (a = none → n = 0))) := by
  unfold nilB at h
  split at h
  rotate_left
  · exact .inl h
  split at h
  rotate_left
  · exact .inl h
  rename_i ti hti
  have hT := (htb T ti hti).u
  split at h
  rotate_left
  · exact .inl h
  rename_i E0 hu
  rw [hu] at hT
  split at h
  · rename_i r ver sz off n
    obtain ⟨Ψ, h, hc⟩ := curK_sound h
    refine .inr ⟨E0, Ψ, n, hT, h, fun p E H w u v hr hh hx hy => ⟨rep_val hy, ?_⟩⟩
    rw [rep] at hx
    obtain ⟨a, c, rfl, h3, h4, h5, h6⟩ := hx.2 (hc p E H w hr hh)
    exact ⟨a, n, c, rfl, fun q => by have := h5 q; omega⟩
  · refine .inr ⟨E0, _, _, hT, h, fun p E H w u v hr hh hx hy => ⟨rep_val hy, ?_⟩⟩
    rw [rep] at hx
    obtain ⟨a, n, c, rfl, h3, h4, h5, h6, _⟩ := hx
    exact ⟨a, n, c, rfl, fun q => by have := h6 q; omega⟩
  · refine .inr ⟨E0, _, _, hT, h, fun p E H w u v hr hh hx hy => ⟨rep_val hy, ?_⟩⟩
    rw [rep] at hx
    obtain ⟨a, n, c, rfl, h3, h4, h5, h6, _⟩ := hx
    exact ⟨a, n, c, rfl, fun q => by have := h6 q; omega⟩
  · exact .inl h
theorem opU_sound {tb : TypeId → Option TI} (htb : TbOk P tb) {p : Nat} {o : Oper} {s : St} {K : St → Prop} (h : opU tb P p o s K) {E : Env} {a : Act} {w : World} (hR : Rel w0 keep E s a w) {Q : Exit → Act → World → Prop} :
    o.wp P a w (fun a' w' => ∃ s' E', Rel w0 keep E' s' a' w' ∧ K s') Q := by
  unfold opU at h
  split at h
  · rename_i c ho
    split at h
    · rename_i f hc
      exact callU_sound (p := p) ho hc h.1 h.2 hR
    · exact stepU_sound htb h hR
  · rename_i c x y ho
    obtain ⟨Φ, v, ⟨hΦ, hK⟩, hv⟩ := pickK_sound (w0 := w0) (keep := keep) h
    exact pickU_sound (Φ := Φ) ho hR (hv hΦ rfl hR) hK
  · rename_i op T x y T' ho
    split at h
    · rcases nilB_sound htb h with h | ⟨E0, Φ, n, hT, ⟨⟨hg, hΦ⟩, hall⟩, hv⟩
      · exact stepU_sound htb h hR
      · obtain ⟨h1, aa, m, c, h2, h3⟩ := hv hΦ E s.H w _ _ hR.hr (fun r e he => by rw [← getL_eq]; exact he) (hR.opnd (gpOs_mem hg x (by rw [ho]; simp [opnds]))) (hR.opnd (gpOs_mem hg y (by rw [ho]; simp [opnds])))
        refine wp_val (v := .bool aa.isNone) ?_ ⟨_, E, hR.put (Out.same hR.hr) (by rw [rep]), hall aa.isNone (fun q => h3 (by simpa using q))⟩
        exact run_binOp ho (by rw [h1, h2]; exact eqGuard_slice w) (by rw [h1, h2, Lib.run_eql_slice_nil w T E0 aa m c 0 0 hT])
    · rcases nilB_sound htb h with h | ⟨E0, Φ, n, hT, ⟨⟨hg, hΦ⟩, hall⟩, hv⟩
      · exact stepU_sound htb h hR
      · obtain ⟨h1, aa, m, c, h2, h3⟩ := hv hΦ E s.H w _ _ hR.hr (fun r e he => by rw [← getL_eq]; exact he) (hR.opnd (gpOs_mem hg x (by rw [ho]; simp [opnds]))) (hR.opnd (gpOs_mem hg y (by rw [ho]; simp [opnds])))
        refine wp_val (v := .bool (!aa.isNone)) ?_ ⟨_, E, hR.put (Out.same hR.hr) (by rw [rep]), hall aa.isNone (fun q => h3 (by simpa using q))⟩
        exact run_binOp ho (by rw [h1, h2]; exact eqGuard_slice w) (by rw [h1, h2, run_neq_slice_nil_any w T E0 aa m c 0 0 hT])
    · exact stepU_sound htb h hR
  · exact stepU_sound htb h hR
theorem guardK_sound {ops : Array Oper} {t : List AV} {j : Nat} {b : Bool} {K : Prop → Prop} (h : guardK ops.toList t j b K) : ∃ G, K G ∧ ∀ {E : Env} {s : St} {a : Act} {w : World} {o : Oper}, s.t = t → Rel w0 keep E s a w → o.guard = some (j, b) →
    (G → Region.wanted o (yielded ops a.tmps) = true) ∧ (¬ G → Region.wanted o (yielded ops a.tmps) = false) := by
  unfold guardK at h
  split at h
  · exact h.elim
  rename_i oj hoj
  split at h
  · exact h.elim
  rename_i d hd
  rw [getN_eq] at hoj
  have hbind : (ops[j]?).bind (·.dst) = some d := by
    have : ops[j]? = some oj := by simpa using hoj
    rw [this]; exact hd
  split at h
  · rename_i q hq
    refine ⟨_, h, fun {E s a w o} hs hR ho => ?_⟩
    have hv := hR.get d
    rw [hs, hq] at hv
    have hy := yielded_bool hbind (rep_val hv)
    exact ⟨fun hG => wanted_yes ho (by rw [hy, hG]), fun hG => wanted_no ho (by rw [hy]; simpa using hG)⟩
  · rename_i φ x hq
    split at h
    · rename_i q
      refine ⟨_, h, fun {E s a w o} hs hR ho => ?_⟩
      have hv := hR.get d
      rw [hs, hq, rep] at hv
      by_cases hφ : φ
      · have hy := yielded_bool hbind (rep_val (hv.1 hφ))
        exact ⟨fun hG => wanted_yes ho (by rw [hy, hG.2]), fun hG => wanted_no ho (by rw [hy]; intro e; exact hG ⟨hφ, by simpa using e⟩)⟩
      · have hy := yielded_undef hbind (hv.2 hφ)
        exact ⟨fun hG => absurd hG.1 hφ, fun hG => wanted_no ho (by rw [hy]; simp)⟩
    · exact h.elim
  · exact h.elim
theorem rep_gd_yes {E : Env} {w : World} {G : Prop} {x : AV} {v : Value} (hG : G) (h : rep E w x v) : rep E w (.gd G x) v := by rw [rep]; exact ⟨fun _ => h, fun n => absurd hG n⟩
theorem rep_gd_no {E : Env} {w : World} {G : Prop} {x : AV} (hG : ¬ G) : rep E w (.gd G x) undef := by rw [rep]; exact ⟨fun h => absurd h hG, fun _ => rfl⟩
theorem opW_sound {tb : TypeId → Option TI} (htb : TbOk P tb) {p : Nat} {ops : Array Oper} {o : Oper} {s : St} {K : St → Prop} (h : opW tb P p ops.toList o s K) {E : Env} {a : Act} {w : World} (hR : Rel w0 keep E s a w) {Q : Exit → Act → World → Prop} :
    (Region.wanted o (yielded ops a.tmps) = true ∧ o.wp P a w (fun a' w' => ∃ s' E', Rel w0 keep E' s' a' w' ∧ K s') Q) ∨ (Region.wanted o (yielded ops a.tmps) = false ∧ ∃ s' E', Rel w0 keep E' s' (a.put o.dst undef) w ∧ K s') := by
  unfold opW at h
  split at h
  · rename_i ho
    exact .inl ⟨by unfold Region.wanted; simp only [ho], opU_sound htb h hR⟩
  rename_i j b ho
  obtain ⟨G, h, hw⟩ := guardK_sound (w0 := w0) (keep := keep) h
  obtain ⟨hw1, hw2⟩ := hw rfl hR ho
  have skip : ∀ {x : AV}, ¬ G → rep E w x undef → K ⟨setD s.t o.dst x, s.H⟩ → ∃ s' E', Rel w0 keep E' s' (a.put o.dst undef) w ∧ K s' := by
    intro x hG hx hK
    exact ⟨_, E, hR.put (Out.same hR.hr) hx, hK⟩
  have step : (stepK tb p o (evA s.t) (getL s.H) fun Φ v us => (G → gpOs s.t (opnds o.op) ∧ Φ) ∧ us = [] ∧ K ⟨setD s.t o.dst (.gd G v), s.H⟩) →
      (Region.wanted o (yielded ops a.tmps) = true ∧ o.wp P a w (fun a' w' => ∃ s' E', Rel w0 keep E' s' a' w' ∧ K s') Q) ∨ (Region.wanted o (yielded ops a.tmps) = false ∧ ∃ s' E', Rel w0 keep E' s' (a.put o.dst undef) w ∧ K s') := by
    intro h
    obtain ⟨Φ, v, us, ⟨hΦ, hus, hK⟩, hs⟩ := stepK_sound htb h
    subst hus
    by_cases hG : G
    · obtain ⟨hg, hΦ⟩ := hΦ hG
      obtain ⟨cv, w', E', h1, h2, h3⟩ := hs hΦ E s.H w a.eval hR.hr (fun r e he => by rw [← getL_eq]; exact he) (fun x hx => hR.opnd (gpOs_mem hg x hx))
      exact .inl ⟨hw1 hG, wp_of_runs h1 ⟨_, E', hR.put h3 (rep_gd_yes hG h2), hK⟩⟩
    · exact .inr ⟨hw2 hG, skip hG (rep_gd_no hG) hK⟩
  have step' : anyG s.t (opnds o.op) (¬ G ∧ K ⟨setD s.t o.dst (.gd False .any), s.H⟩) (stepK tb p o (evA s.t) (getL s.H) fun Φ v us => (G → gpOs s.t (opnds o.op) ∧ Φ) ∧ us = [] ∧ K ⟨setD s.t o.dst (.gd G v), s.H⟩) →
      (Region.wanted o (yielded ops a.tmps) = true ∧ o.wp P a w (fun a' w' => ∃ s' E', Rel w0 keep E' s' a' w' ∧ K s') Q) ∨ (Region.wanted o (yielded ops a.tmps) = false ∧ ∃ s' E', Rel w0 keep E' s' (a.put o.dst undef) w ∧ K s') := by
    intro h
    rcases anyG_or h with ⟨hG, h⟩ | h
    · exact .inr ⟨hw2 hG, skip hG (rep_gd_no (fun h => h)) h⟩
    · exact step h
  unfold opG at h
  split at h
  · rename_i c hop
    split at h
    · rename_i f hc
      by_cases hG : G
      · exact .inl ⟨hw1 hG, callU_sound (p := p) hop hc (h.1 hG).1 (h.1 hG).2 hR⟩
      · exact .inr ⟨hw2 hG, skip hG (rep_gd_no (fun h => h)) (h.2 hG)⟩
    · exact step' h
  · rename_i c x y hop
    obtain ⟨Φ, v, ⟨hΦ, hK⟩, hv⟩ := pickK_sound (w0 := w0) (keep := keep) h
    by_cases hG : G
    · refine .inl ⟨hw1 hG, pickU_sound (Φ := Φ) (v := .gd G v) hop hR ?_ hK⟩
      obtain ⟨q, h1, h2⟩ := hv (hΦ hG) rfl hR
      exact ⟨q, h1, rep_gd_yes hG h2⟩
    · exact .inr ⟨hw2 hG, skip hG (rep_gd_no hG) hK⟩
  · exact step' h
theorem opsW_sound {tb : TypeId → Option TI} (htb : TbOk P tb) {p : Nat} {ops : Array Oper} {Q : Exit → Act → World → Prop} : ∀ {rest : List Oper} {K : St → Prop} {s : St}, opsW tb P p ops.toList rest K s → ∀ {E : Env} {a : Act} {w : World}, Rel w0 keep E s a w →
    (∀ s' E' a' w', Rel w0 keep E' s' a' w' → K s' → Q .normal a' w') → wpList P ops Q rest a w
  | [], K, s, h, E, a, w, hR, hQ => hQ s E a w hR h
  | o :: rest, K, s, h, E, a, w, hR, hQ => by
    unfold opsW at h
    unfold wpList
    rcases opW_sound htb (Q := Q) h hR with ⟨h1, h2⟩ | ⟨h1, s', E', h2, h3⟩
    · rw [if_pos h1]
      exact .inl (Oper.wp_mono (fun a' w' ⟨s', E', h3, h4⟩ => opsW_sound htb h4 h3 hQ) h2)
    · rw [if_neg (by rw [h1]; simp)]
      exact opsW_sound htb h3 h2 hQ
end
end Go.Proofs.Ytjfenbkhgamidaa
