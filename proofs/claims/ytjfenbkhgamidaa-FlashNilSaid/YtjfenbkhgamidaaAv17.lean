/- Abstract values: a region that draws its order: one order is enough. Conditions: the premises of 'draw_of'. -/
import Derived.Test.YtjfenbkhgamidaaAv16
namespace Go.Proofs.Ytjfenbkhgamidaa
open Go.RowKit
set_option linter.unusedVariables false
structure CE where
  i : Nat
  sens : Bool
  eff : Bool
  forb : List Nat
def viewOf (p : Nat) (c : CE) (H : List Ent) : Nat → Option Ent := match c.sens with
  | true => fun r => if (c.forb.map (p + ·)).contains r then none else getL H r
  | false => fun _ => none
theorem viewOf_get {p : Nat} {c : CE} {H : List Ent} {r : Nat} {e : Ent} (h : viewOf p c H r = some e) : c.sens = true ∧ (∀ d ∈ c.forb, r ≠ p + d) ∧ H[r]? = some e := by
  unfold viewOf at h
  cases hs : c.sens with
  | true =>
    simp only [hs] at h
    split at h
    · cases h
    · rename_i hc
      rw [getL_eq] at h
      refine ⟨rfl, fun d hd he => hc ?_, h⟩
      simp only [List.contains_iff_mem, List.mem_map]
      exact ⟨d, hd, he.symm⟩
  | false => simp [hs] at h
def opsD (tb : TypeId → Option TI) (P : Program) (p : Nat) (ops : Array Oper) : List CE → (St → Prop) → St → Prop
  | [], K, s => K s
  | c :: cs, K, s => match getN ops.toList c.i with
    | none => False
    | some o => opD tb P p ops.toList (viewOf p c s.H) c.eff o s (opsD tb P p ops cs K)
def dstOf (ops : Array Oper) (i : Nat) : Option Tmp := (ops[i]?).bind (·.dst)
def depL (B : List Nat) (i j : Nat) : Bool := (B.getD i 0).testBit j
def callB (ops : Array Oper) (i : Nat) : Bool := match ops[i]? with
  | some o => isCall o
  | none => false
def pairB (R : CE → CE → Bool) : List CE → Bool
  | [] => true
  | c :: cs => cs.all (R c) && pairB R cs
def regOk (ops : Array Oper) (nt : Nat) (B : List Nat) (cs : List CE) : Bool :=
  (List.range ops.size).all (fun i => cs.any (fun c => c.i == i)) && cs.all (fun c => decide (c.i < ops.size)) &&
  pairB (fun a b => a.i != b.i && !depL B a.i b.i && (!callB ops a.i || depL B b.i a.i)) cs &&
  (List.range ops.size).all (fun i => (List.range ops.size).all fun j => !depL B i j || (match ops[i]? with | none => false | some o => o.after.any fun e => Region.binds .any e && (e.on == j || depL B e.on j))) &&
  backB .any ops && distinctB ops nt &&
  (List.range ops.size).all (fun i => match ops[i]? with | none => true | some o => (looksOf ops o).all fun k => (List.range ops.size).all fun j => dstOf ops j != some k || depL B i j || depL B j i) &&
  cs.all (fun a => !a.eff || (a.sens && cs.all fun b => b.i == a.i || !b.sens || depL B b.i a.i || depL B a.i b.i)) &&
  cs.all (fun a => !a.sens || (List.range ops.size).all fun j => j == a.i || depL B a.i j || (match dstOf ops j with | none => true | some d => a.forb.contains d))
def filtU (own : Option Nat) (eff : Bool) (us : Us) : Us := if eff then us else us.filter (fun q => own == some q.1)
theorem filt_eq {V : Nat → Option Ent} {eff : Bool} {own : Option Nat} : ∀ {us : Us} {H : List Ent}, okU V eff own us → (∀ r e, own ≠ some r → V r = some e → H[r]? = some e) → updH H us = updH H (filtU own eff us)
  | [], H, _, _ => by unfold filtU; split <;> rfl
  | (r, e) :: us, H, hok, hV => by
    unfold filtU
    cases eff with
    | true => rfl
    | false =>
      simp only [Bool.false_eq_true, if_false, List.filter_cons]
      by_cases ho : own = some r
      · simp only [ho, beq_self_eq_true, if_true, updH, setL_eq]
        have := filt_eq (us := us) (H := H.set r e) hok.2 (fun r' e' h1 h2 => by
          rw [List.getElem?_set_ne (fun h => h1 (by rw [ho, h]))]; exact hV r' e' h1 h2)
        unfold filtU at this
        rw [this, ho]; rfl
      · have hne : (own == some r) = false := by simpa using ho
        simp only [hne, Bool.false_eq_true, if_false, updH, setL_eq]
        have he := hV r e ho (hok.1.resolve_left ho)
        have hset : H.set r e = H := by
          apply List.ext_getElem?
          intro k
          by_cases hk : r = k
          · subst hk; rw [List.getElem?_set_self (List.getElem?_eq_some_iff.1 he).1, he]
          · rw [List.getElem?_set_ne hk]
        rw [hset]
        have := filt_eq (us := us) (H := H) hok.2 hV
        unfold filtU at this
        rw [this]; rfl
theorem filt_last {V : Nat → Option Ent} {eff : Bool} {own : Option Nat} : ∀ {us : Us}, okU V eff own us → ∀ r, lastU (filtU own eff us) r ≠ none → own = some r ∨ (eff = true ∧ V r ≠ none)
  | [], _, r, h => by unfold filtU at h; split at h <;> simp [lastU] at h
  | (q, e) :: us, hok, r, h => by
    have ih := filt_last (us := us) hok.2 r
    unfold filtU at h ih
    cases eff with
    | true =>
      simp only [if_true, lastU] at h ih
      by_cases hl : lastU us r = none
      · simp only [hl] at h
        by_cases hq : q = r
        · subst hq; exact (hok.1).imp id fun h => ⟨rfl, h⟩
        · simp [hq] at h
      · simpa using ih hl
    | false =>
      simp only [Bool.false_eq_true, if_false, List.filter_cons] at h ih
      by_cases ho : own = some q
      · simp only [ho, beq_self_eq_true, if_true, lastU] at h ih
        by_cases hl : lastU (us.filter fun x => some q == some x.1) r = none
        · simp only [hl] at h
          by_cases hq : q = r
          · left; rw [ho, hq]
          · simp [hq] at h
        · rw [ho]; simpa using ih hl
      · have hne : (own == some q) = false := by simpa using ho
        simp only [hne, Bool.false_eq_true, if_false] at h
        simpa using ih h
theorem appL_append (dst : Nat → Option Tmp) (L : Nat → Bool) : ∀ (a b : Tr) (s : St), appL dst L (a ++ b) s = appL dst L b (appL dst L a s)
  | [], b, s => rfl
  | (i, v, us) :: a, b, s => by simp only [List.cons_append, appL]; exact appL_append dst L a b _
theorem appL_congr (dst : Nat → Option Tmp) {L L' : Nat → Bool} : ∀ {a : Tr} {s : St}, (∀ y ∈ a, L y.1 = L' y.1) → appL dst L a s = appL dst L' a s
  | [], s, _ => rfl
  | (i, v, us) :: a, s, h => by
    simp only [appL]
    rw [h (i, v, us) (by simp)]
    exact appL_congr dst (fun y hy => h y (by simp [hy]))
theorem appL_idle (dst : Nat → Option Tmp) {L : Nat → Bool} : ∀ {a : Tr} {s : St}, (∀ y ∈ a, L y.1 = false) → appL dst L a s = s
  | [], s, _ => rfl
  | (i, v, us) :: a, s, h => by
    simp only [appL]
    rw [h (i, v, us) (by simp)]
    exact appL_idle dst (fun y hy => h y (by simp [hy]))
section
variable {P : Program}
/-- what is known of an operation whose results are fixed -/
def OkY (P : Program) (ops : Array Oper) (p : Nat) (cs : List CE) (s : St) (y : Nat × AV × Us) : Prop :=
  ∃ c ∈ cs, ∃ o, c.i = y.1 ∧ ops[y.1]? = some o ∧ (∀ r, lastU y.2.2 r ≠ none → ownId p o.dst = some r ∨ (c.eff = true ∧ viewOf p c s.H r ≠ none)) ∧
    (isCall o = false → ∃ us0, okU (viewOf p c s.H) c.eff (ownId p o.dst) us0 ∧ filtU (ownId p o.dst) c.eff us0 = y.2.2 ∧ ExP P ops o s.t (viewOf p c s.H) (fun v us => v = y.2.1 ∧ us = us0))
def TrOk (P : Program) (ops : Array Oper) (p : Nat) (cs : List CE) (s0 : St) : Tr → Tr → Prop
  | _, [] => True
  | pre, y :: t => OkY P ops p cs (appL (dstOf ops) (fun _ => true) pre s0) y ∧ TrOk P ops p cs s0 (pre ++ [y]) t
theorem TrOk_append {ops : Array Oper} {p : Nat} {cs : List CE} {s0 : St} : ∀ {a pre b : Tr}, TrOk P ops p cs s0 pre (a ++ b) ↔ TrOk P ops p cs s0 pre a ∧ TrOk P ops p cs s0 (pre ++ a) b
  | [], pre, b => by simp [TrOk]
  | y :: a, pre, b => by
    simp only [List.cons_append, TrOk]
    rw [TrOk_append (a := a) (pre := pre ++ [y])]
    simp [and_assoc, List.append_assoc]
theorem TrOk_at {ops : Array Oper} {p : Nat} {cs : List CE} {s0 : St} {t1 t2 : Tr} {y : Nat × AV × Us} (h : TrOk P ops p cs s0 [] (t1 ++ y :: t2)) : OkY P ops p cs (appL (dstOf ops) (fun _ => true) t1 s0) y := by
  have := (TrOk_append.1 h).2
  simpa using this.1
/-- operations that are no calls have their results ahead of time -/
theorem saturate {tb : TypeId → Option TI} (htb : TbOk P tb) {ops : Array Oper} {p : Nat} {cs : List CE} {s0 : St} {K : St → Prop} : ∀ (rest : List CE) (tr : Tr), (∀ c ∈ rest, c ∈ cs) → TrOk P ops p cs s0 [] tr → opsD tb P p ops rest K (appL (dstOf ops) (fun _ => true) tr s0) →
    ∃ t2 rest2, t2.map (·.1) ++ rest2.map (·.i) = rest.map (·.i) ∧ (∀ c ∈ rest2, c ∈ cs) ∧ (∀ c, rest2.head? = some c → callB ops c.i = true) ∧ TrOk P ops p cs s0 [] (tr ++ t2) ∧ (∀ y ∈ t2, callB ops y.1 = false) ∧ opsD tb P p ops rest2 K (appL (dstOf ops) (fun _ => true) (tr ++ t2) s0)
  | [], tr, _, hT, h => ⟨[], [], rfl, by simp, by simp, by simpa using hT, by simp, by simpa using h⟩
  | c :: rest, tr, hin, hT, h => by
    by_cases hc : callB ops c.i = true
    · exact ⟨[], c :: rest, rfl, hin, fun c' h' => by simp at h'; rw [← h']; exact hc, by simpa using hT, by simp, by simpa using h⟩
    · unfold opsD at h
      split at h
      · exact h.elim
      rename_i o ho
      rw [getN_eq] at ho
      have ho' : ops[c.i]? = some o := by simpa using ho
      have hnc : isCall o = false := by
        simp only [callB, ho'] at hc
        simpa using hc
      obtain ⟨post, hpost, hex, hone⟩ := opD_data htb h
      obtain ⟨v, us, rfl⟩ := hone hnc
      obtain ⟨hok, hK⟩ := hpost v us ⟨rfl, rfl⟩
      have hd : dstOf ops c.i = o.dst := by simp [dstOf, ho']
      have heq : (⟨setD (appL (dstOf ops) (fun _ => true) tr s0).t o.dst v, updH (appL (dstOf ops) (fun _ => true) tr s0).H us⟩ : St) = appL (dstOf ops) (fun _ => true) (tr ++ [(c.i, v, filtU (ownId p o.dst) c.eff us)]) s0 := by
        rw [appL_append]
        simp only [appL, if_true, app1, hd]
        rw [← filt_eq hok (fun r e _ h => (viewOf_get h).2.2)]
      rw [heq] at hK
      have hT' : TrOk P ops p cs s0 [] (tr ++ [(c.i, v, filtU (ownId p o.dst) c.eff us)]) := by
        refine TrOk_append.2 ⟨hT, ?_, trivial⟩
        refine ⟨c, hin c (by simp), o, rfl, ho', fun r hr => filt_last hok r hr, fun _ => ⟨us, hok, rfl, ?_⟩⟩
        simpa using hex
      obtain ⟨t2, rest2, h1, h2, h3, h4, h5, h6⟩ := saturate htb rest _ (fun c' h' => hin c' (by simp [h'])) hT' hK
      refine ⟨(c.i, v, filtU (ownId p o.dst) c.eff us) :: t2, rest2, by simp [h1], h2, h3, by simpa using h4, fun y hy => ?_, by simpa using h6⟩
      rcases List.mem_cons.1 hy with rfl | hy
      · simpa using hc
      · exact h5 y hy
theorem Rel.drew {w0 : World} {keep : Bs} {E : Env} {s : St} {a : Act} {w : World} (h : Rel w0 keep E s a w) : Rel w0 keep E s a w.drew := by
  have X : Ext E E w w.drew := ⟨fun _ => Nat.le_refl _, fun _ _ => rfl, fun _ _ => Iff.rfl, fun _ _ h => h, fun _ _ _ => rfl, fun _ _ cur T fz h => ⟨cur, T, fz, h, Nat.le_refl _⟩⟩
  exact ⟨h.len, fun i x hx => rep_ext X x _ (h.tmps i x hx), h.defers, h.hr.drew, ⟨h.fr.os, h.fr.tape, h.fr.output, h.fr.size, h.fr.block, h.fr.grow, h.fr.rows⟩, h.ext.trans X, h.zone, h.rows⟩
end
end Go.Proofs.Ytjfenbkhgamidaa
