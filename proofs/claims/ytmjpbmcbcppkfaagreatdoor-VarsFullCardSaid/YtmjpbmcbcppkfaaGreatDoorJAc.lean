/- Abstract values: regions that draw, calls. Conditions: none. -/
import Derived.Test.YtmjpbmcbcppkfaaGreatDoorJAb
import Derived.Laws.Externs
import Derived.Laws.AppendOwn
import Derived.Laws.Entries
import Derived.Laws.NewFold
/-! Abstract values: a region that draws its order: one order is enough. Conditions: the premises of 'draw_of'. -/
namespace Go.Proofs.YtmjpbmcbcppkfaaGreatDoor
set_option linter.unusedVariables false
set_option linter.unusedSimpArgs false
open Go.RowKit
structure CE where
 i : Nat
 sens : Bool
 eff : Bool
 forb : List Nat
def rowZ (K p d : Nat) : Nat := cond (Nat.ble K d && Nat.ble (d - K + 1) p) (d - K) (p + d)
theorem rowZ_eq {K p d : Nat} (h : d < K) : rowZ K p d = p + d := by
 have : Nat.ble K d = false := by cases q : Nat.ble K d with | false => rfl | true => exact absurd (Nat.le_of_ble_eq_true q) (by omega)
 simp [rowZ, this]
theorem rowZ_inj {K p d d0 : Nat} (h : p + d = rowZ K p d0) : d = d0 := by
 unfold rowZ at h
 cases q : (Nat.ble K d0 && Nat.ble (d0 - K + 1) p) with
 | false => rw [q] at h; simp only [cond_false] at h; omega
 | true =>
  rw [q] at h
  rw [Bool.and_eq_true] at q
  have q1 := Nat.le_of_ble_eq_true q.1
  have q2 := Nat.le_of_ble_eq_true q.2
  simp only [cond_true] at h; omega
def rowC (p d : Nat) : Nat := rowZ 10000 p d
theorem rowC_eq {p d : Nat} (h : d < 10000) : rowC p d = p + d := rowZ_eq h
theorem rowC_inj {p d d0 : Nat} (h : p + d = rowC p d0) : d = d0 := rowZ_inj h
def viewOf (p : Nat) (c : CE) (H : List Ent) : Nat → Option Ent := match c.sens with
 | true => fun r => if (c.forb.map (rowC p)).contains r then none else getL H r
 | false => fun r => if (c.forb.map (rowC p)).contains r then getL H r else none
theorem viewOf_get {p : Nat} {c : CE} {H : List Ent} {r : Nat} {e : Ent} (h : viewOf p c H r = some e) : (c.sens = true ∧ (∀ d ∈ c.forb, r ≠ rowC p d) ∨ c.sens = false ∧ ∃ d ∈ c.forb, r = rowC p d) ∧ H[r]? = some e := by
 unfold viewOf at h
 cases hs : c.sens with
 | true =>
  simp only [hs] at h
  split at h
  ·cases h
  ·rename_i hc
   rw [getL_eq] at h
   refine ⟨.inl ⟨rfl, fun d hd he => hc ?_⟩, h⟩
   simp only [List.contains_iff_mem, List.mem_map]
   exact ⟨d, hd, he.symm⟩
 | false =>
  simp only [hs] at h
  split at h
  ·rename_i hc
   rw [getL_eq] at h
   simp only [List.contains_iff_mem, List.mem_map] at hc
   obtain ⟨d, hd, he⟩ := hc
   exact ⟨.inr ⟨rfl, d, hd, he.symm⟩, h⟩
  ·cases h
def opsD (tb : TypeId → Option TI) (P : Program) (p : Nat) (ops : Array Oper) : List CE → (St → Prop) → St → Prop
 | [], K, s => K s
 | c :: cs, K, s => match getN ops.toList c.i with
  | none => False
  | some o => opD tb P p ops.toList (viewOf p c s.H) c.eff o s (opsD tb P p ops cs K)
def dstOf (ops : Array Oper) (i : Nat) : Option Tmp := (ops[i]?).bind (·.dst)
def depL (B : List Nat) (i j : Nat) : Bool := (B.getD i 0).testBit j
def callB (ops : Array Oper) (i : Nat) : Bool := match ops[i]? with
 | some o => isCall o
 | none => false
def pairB (R : CE → CE → Bool) : List CE → Bool
 | [] => true
 | c :: cs => cs.all (R c) && pairB R cs
def regOk (ops : Array Oper) (nt : Nat) (B : List Nat) (cs : List CE) : Bool :=
 (List.range ops.size).all (fun i => cs.any (fun c => c.i == i)) && cs.all (fun c => decide (c.i < ops.size)) &&
 pairB (fun a b => a.i != b.i && !depL B a.i b.i && (!callB ops a.i || depL B b.i a.i)) cs &&
 (List.range ops.size).all (fun i => (List.range ops.size).all fun j => !depL B i j || (match ops[i]? with | none => false | some o => o.after.any fun e => Region.binds .any e && (e.on == j || depL B e.on j))) &&
 backB .any ops && distinctB ops nt &&
 (List.range ops.size).all (fun i => match ops[i]? with | none => true | some o => (looksOf ops o).all fun k => (List.range ops.size).all fun j => dstOf ops j != some k || depL B i j || depL B j i) &&
 cs.all (fun a => !a.eff || (a.sens && cs.all fun b => b.i == a.i || !b.sens || depL B b.i a.i || depL B a.i b.i)) &&
 cs.all (fun a => !a.sens || (List.range ops.size).all fun j => j == a.i || depL B a.i j || (match dstOf ops j with | none => true | some d => a.forb.contains d)) &&
 cs.all (fun a => a.sens || a.forb.all fun d => dstOf ops a.i == some d || ((List.range ops.size).all (fun j => dstOf ops j != some d || depL B a.i j) && cs.all fun b => b.i == a.i || !b.eff || depL B b.i a.i || depL B a.i b.i || b.forb.contains d)) && decide (nt ≤ 10000)
def filtU (own : Option Nat) (eff : Bool) (us : Us) : Us := if eff then us else us.filter (fun q => own == some q.1)
theorem filt_eq {V : Nat → Option Ent} {eff : Bool} {own : Option Nat} : ∀ {us : Us} {H : List Ent}, okU V eff own us → (∀ r e, own ≠ some r → V r = some e → H[r]? = some e) → updH H us = updH H (filtU own eff us)
 | [], H, _, _ => by unfold filtU; split <;> rfl
 | (r, e) :: us, H, hok, hV => by
  unfold filtU
  cases eff with
  | true => rfl
  | false =>
   simp only [Bool.false_eq_true, if_false, List.filter_cons]
   by_cases ho : own = some r
   ·simp only [ho, beq_self_eq_true, if_true, updH, setL_eq]
    have := filt_eq (us := us) (H := H.set r e) hok.2 (fun r' e' h1 h2 => by
     rw [List.getElem?_set_ne (fun h => h1 (by rw [ho, h]))]; exact hV r' e' h1 h2)
    unfold filtU at this
    rw [this, ho]; rfl
   ·have hne : (own == some r) = false := by simpa using ho
    simp only [hne, Bool.false_eq_true, if_false, updH, setL_eq]
    have he := hV r e ho (hok.1.resolve_left ho)
    have hset : H.set r e = H := by
     apply List.ext_getElem?
     intro k
     by_cases hk : r = k
     ·subst hk; rw [List.getElem?_set_self (List.getElem?_eq_some_iff.1 he).1, he]
     ·rw [List.getElem?_set_ne hk]
    rw [hset]
    have := filt_eq (us := us) (H := H) hok.2 hV
    unfold filtU at this
    rw [this]; rfl
theorem filt_last {V : Nat → Option Ent} {eff : Bool} {own : Option Nat} : ∀ {us : Us}, okU V eff own us → ∀ r, lastU (filtU own eff us) r ≠ none → own = some r ∨ (eff = true ∧ V r ≠ none)
 | [], _, r, h => by unfold filtU at h; split at h <;> simp [lastU] at h
 | (q, e) :: us, hok, r, h => by
  have ih := filt_last (us := us) hok.2 r
  unfold filtU at h ih
  cases eff with
  | true =>
   simp only [if_true, lastU] at h ih
   by_cases hl : lastU us r = none
   ·simp only [hl] at h
    by_cases hq : q = r
    ·subst hq; exact (hok.1).imp id fun h => ⟨rfl, h⟩
    ·simp [hq] at h
   ·simpa using ih hl
  | false =>
   simp only [Bool.false_eq_true, if_false, List.filter_cons] at h ih
   by_cases ho : own = some q
   ·simp only [ho, beq_self_eq_true, if_true, lastU] at h ih
    by_cases hl : lastU (us.filter fun x => some q == some x.1) r = none
    ·simp only [hl] at h
     by_cases hq : q = r
     ·left; rw [ho, hq]
     ·simp [hq] at h
    ·rw [ho]; simpa using ih hl
   ·have hne : (own == some q) = false := by simpa using ho
    simp only [hne, Bool.false_eq_true, if_false] at h
    simpa using ih h
theorem appL_append (dst : Nat → Option Tmp) (L : Nat → Bool) : ∀ (a b : Tr) (s : St), appL dst L (a ++ b) s = appL dst L b (appL dst L a s)
 | [], b, s => rfl
 | (i, v, us) :: a, b, s => by simp only [List.cons_append, appL]; exact appL_append dst L a b _
theorem appL_congr (dst : Nat → Option Tmp) {L L' : Nat → Bool} : ∀ {a : Tr} {s : St}, (∀ y ∈ a, L y.1 = L' y.1) → appL dst L a s = appL dst L' a s
 | [], s, _ => rfl
 | (i, v, us) :: a, s, h => by
  simp only [appL]
  rw [h (i, v, us) (by simp)]
  exact appL_congr dst (fun y hy => h y (by simp [hy]))
theorem appL_idle (dst : Nat → Option Tmp) {L : Nat → Bool} : ∀ {a : Tr} {s : St}, (∀ y ∈ a, L y.1 = false) → appL dst L a s = s
 | [], s, _ => rfl
 | (i, v, us) :: a, s, h => by
  simp only [appL]
  rw [h (i, v, us) (by simp)]
  exact appL_idle dst (fun y hy => h y (by simp [hy]))
section
variable {P : Program}
def OkY (P : Program) (ops : Array Oper) (p : Nat) (cs : List CE) (s : St) (y : Nat × AV × Us) : Prop :=
 ∃ c ∈ cs, ∃ o, c.i = y.1 ∧ ops[y.1]? = some o ∧ (∀ r, lastU y.2.2 r ≠ none → ownId p o.dst = some r ∨ (c.eff = true ∧ viewOf p c s.H r ≠ none)) ∧
  (isCall o = false → ∃ us0, okU (viewOf p c s.H) c.eff (ownId p o.dst) us0 ∧ filtU (ownId p o.dst) c.eff us0 = y.2.2 ∧ ExP P ops o s.t (viewOf p c s.H) (fun v us => v = y.2.1 ∧ us = us0))
def TrOk (P : Program) (ops : Array Oper) (p : Nat) (cs : List CE) (s0 : St) : Tr → Tr → Prop
 | _, [] => True
 | pre, y :: t => OkY P ops p cs (appL (dstOf ops) (fun _ => true) pre s0) y ∧ TrOk P ops p cs s0 (pre ++ [y]) t
theorem TrOk_append {ops : Array Oper} {p : Nat} {cs : List CE} {s0 : St} : ∀ {a pre b : Tr}, TrOk P ops p cs s0 pre (a ++ b) ↔ TrOk P ops p cs s0 pre a ∧ TrOk P ops p cs s0 (pre ++ a) b
 | [], pre, b => by simp [TrOk]
 | y :: a, pre, b => by
  simp only [List.cons_append, TrOk]
  rw [TrOk_append (a := a) (pre := pre ++ [y])]
  simp [and_assoc, List.append_assoc]
theorem TrOk_at {ops : Array Oper} {p : Nat} {cs : List CE} {s0 : St} {t1 t2 : Tr} {y : Nat × AV × Us} (h : TrOk P ops p cs s0 [] (t1 ++ y :: t2)) : OkY P ops p cs (appL (dstOf ops) (fun _ => true) t1 s0) y := by
 have := (TrOk_append.1 h).2
 simpa using this.1
theorem saturate {tb : TypeId → Option TI} (htb : TbOk P tb) {ops : Array Oper} {p : Nat} {cs : List CE} {s0 : St} {K : St → Prop} : ∀ (rest : List CE) (tr : Tr), (∀ c ∈ rest, c ∈ cs) → TrOk P ops p cs s0 [] tr → opsD tb P p ops rest K (appL (dstOf ops) (fun _ => true) tr s0) →
    ∃ t2 rest2, t2.map (·.1) ++ rest2.map (·.i) = rest.map (·.i) ∧ (∀ c ∈ rest2, c ∈ cs) ∧ (∀ c, rest2.head? = some c → callB ops c.i = true) ∧ TrOk P ops p cs s0 [] (tr ++ t2) ∧ (∀ y ∈ t2, callB ops y.1 = false) ∧ opsD tb P p ops rest2 K (appL (dstOf ops) (fun _ => true) (tr ++ t2) s0)
 | [], tr, _, hT, h => ⟨[], [], rfl, by simp, by simp, by simpa using hT, by simp, by simpa using h⟩
 | c :: rest, tr, hin, hT, h => by
  by_cases hc : callB ops c.i = true
  ·exact ⟨[], c :: rest, rfl, hin, fun c' h' => by simp at h'; rw [← h']; exact hc, by simpa using hT, by simp, by simpa using h⟩
  ·unfold opsD at h
   split at h
   ·exact h.elim
   rename_i o ho
   rw [getN_eq] at ho
   have ho' : ops[c.i]? = some o := by simpa using ho
   have hnc : isCall o = false := by
    simp only [callB, ho'] at hc
    simpa using hc
   obtain ⟨post, hpost, hex, hone⟩ := opD_data htb h
   obtain ⟨v, us, rfl⟩ := hone hnc
   obtain ⟨hok, hK⟩ := hpost v us ⟨rfl, rfl⟩
   have hd : dstOf ops c.i = o.dst := by simp [dstOf, ho']
   have heq : (⟨setD (appL (dstOf ops) (fun _ => true) tr s0).t o.dst v, updH (appL (dstOf ops) (fun _ => true) tr s0).H us⟩ : St) = appL (dstOf ops) (fun _ => true) (tr ++ [(c.i, v, filtU (ownId p o.dst) c.eff us)]) s0 := by
    rw [appL_append]
    simp only [appL, if_true, app1, hd]
    rw [← filt_eq hok (fun r e _ h => (viewOf_get h).2)]
   rw [heq] at hK
   have hT' : TrOk P ops p cs s0 [] (tr ++ [(c.i, v, filtU (ownId p o.dst) c.eff us)]) := by
    refine TrOk_append.2 ⟨hT, ?_, trivial⟩
    refine ⟨c, hin c (by simp), o, rfl, ho', fun r hr => filt_last hok r hr, fun _ => ⟨us, hok, rfl, ?_⟩⟩
    simpa using hex
   obtain ⟨t2, rest2, h1, h2, h3, h4, h5, h6⟩ := saturate htb rest _ (fun c' h' => hin c' (by simp [h'])) hT' hK
   refine ⟨(c.i, v, filtU (ownId p o.dst) c.eff us) :: t2, rest2, by simp [h1], h2, h3, by simpa using h4, fun y hy => ?_, by simpa using h6⟩
   rcases List.mem_cons.1 hy with rfl | hy
   ·simpa using hc
   ·exact h5 y hy
theorem Rel.drew {w0 : World} {keep : Bs} {E : Env} {s : St} {a : Act} {w : World} (h : Rel w0 keep E s a w) : Rel w0 keep E s a w.drew := by
 have X : Ext E E w w.drew := ⟨fun _ => Nat.le_refl _, fun _ _ => rfl, fun _ _ => Iff.rfl, fun _ _ h => h, fun _ _ _ => rfl, fun _ cur T fz h => ⟨cur, T, fz, h, Nat.le_refl _⟩, fun _ _ _ _ h => h⟩
 exact ⟨h.len, fun i x hx => rep_ext X x _ (h.tmps i x hx), ⟨h.defers.1, h.defers.2.ext X⟩, h.hr.drew, ⟨h.fr.os, h.fr.tape, h.fr.output, h.fr.size, h.fr.block, h.fr.grow, h.fr.rows⟩, h.ext.trans X, h.zone, h.rows⟩
end
end Go.Proofs.YtmjpbmcbcppkfaaGreatDoor

/-! Abstract values: a region that draws its order: one order is enough. Conditions: the premises of 'draw_of'. -/
namespace Go.Proofs.YtmjpbmcbcppkfaaGreatDoor
set_option linter.unusedVariables false
set_option linter.unusedSimpArgs false
open Go.RowKit
section
variable {P : Program}
structure RegF (ops : Array Oper) (nt : Nat) (B : List Nat) (cs : List CE) : Prop where
 cover : ∀ i, i < ops.size → ∃ c ∈ cs, c.i = i
 range : ∀ c ∈ cs, c.i < ops.size
 pair : ∀ l1 a l2 b l3, cs = l1 ++ a :: (l2 ++ b :: l3) → a.i ≠ b.i ∧ depL B a.i b.i = false ∧ (callB ops a.i = true → depL B b.i a.i = true)
 dep : ∀ i j o, ops[i]? = some o → j < ops.size → depL B i j = true → ∃ e ∈ o.after, Region.binds .any e = true ∧ (e.on = j ∨ depL B e.on j = true)
 back : ∀ i o, ops[i]? = some o → ∀ e ∈ o.after, Region.binds .any e = true → e.on < i
 dlt : ∀ i d, dstOf ops i = some d → d < nt
 dinj : ∀ i j d, dstOf ops i = some d → dstOf ops j = some d → i = j
 look : ∀ i o, ops[i]? = some o → ∀ k ∈ looksOf ops o, ∀ j, dstOf ops j = some k → depL B i j = true ∨ depL B j i = true
 eff : ∀ a ∈ cs, a.eff = true → a.sens = true ∧ ∀ b ∈ cs, b.i ≠ a.i → b.sens = true → depL B b.i a.i = true ∨ depL B a.i b.i = true
 forb : ∀ a ∈ cs, a.sens = true → ∀ j d, dstOf ops j = some d → j ≠ a.i → depL B a.i j = true ∨ d ∈ a.forb
 own : ∀ a ∈ cs, a.sens = false → ∀ d ∈ a.forb, dstOf ops a.i = some d ∨ ((∀ j, dstOf ops j = some d → depL B a.i j = true) ∧ ∀ b ∈ cs, b.i ≠ a.i → b.eff = true → depL B b.i a.i = true ∨ depL B a.i b.i = true ∨ d ∈ b.forb)
 small : nt ≤ 10000
theorem dst_lt {ops : Array Oper} {j : Nat} {d : Tmp} (h : dstOf ops j = some d) : j < ops.size := by
 unfold dstOf at h
 cases ho : ops[j]? with
 | none => rw [ho] at h; cases h
 | some o => exact (Array.getElem?_eq_some_iff.1 ho).1
theorem pairB_spec {R : CE → CE → Bool} : ∀ {cs : List CE}, pairB R cs = true → ∀ l1 a l2 b l3, cs = l1 ++ a :: (l2 ++ b :: l3) → R a b = true
 | [], _, l1, a, l2, b, l3, h => by simp at h
 | c :: cs, hp, l1, a, l2, b, l3, h => by
  simp only [pairB, Bool.and_eq_true] at hp
  cases l1 with
  | nil =>
   simp only [List.nil_append, List.cons.injEq] at h
   obtain ⟨rfl, rfl⟩ := h
   exact List.all_eq_true.1 hp.1 b (by simp)
  | cons x l1 =>
   simp only [List.cons_append, List.cons.injEq] at h
   exact pairB_spec hp.2 l1 a l2 b l3 h.2
theorem regF {ops : Array Oper} {nt : Nat} {B : List Nat} {cs : List CE} (h : regOk ops nt B cs = true) : RegF ops nt B cs := by
 unfold regOk at h
 simp only [Bool.and_eq_true] at h
 obtain ⟨⟨⟨⟨⟨⟨⟨⟨⟨⟨h1, h2⟩, h3⟩, h4⟩, h5⟩, h6⟩, h7⟩, h8⟩, h9⟩, h10⟩, h11⟩ := h
 refine ⟨fun i hi => ?_, fun c hc => ?_, fun l1 a l2 b l3 he => ?_, fun i j o ho hj hd => ?_, fun i o ho e he hb => ?_, fun i d hd => ?_, fun i j d hi hj => ?_, fun i o ho k hk j hj => ?_, fun a ha he => ?_, fun a ha hs j d hj hne => ?_, fun a ha hs d hd => ?_, of_decide_eq_true h11⟩
 ·have := List.all_eq_true.1 h1 i (List.mem_range.2 hi)
  obtain ⟨c, hc, he⟩ := List.any_eq_true.1 this
  exact ⟨c, hc, by simpa using he⟩
 ·simpa using List.all_eq_true.1 h2 c hc
 ·have := pairB_spec h3 l1 a l2 b l3 he
  simp only [Bool.and_eq_true, bne_iff_ne, ne_eq, Bool.not_eq_true', Bool.or_eq_true] at this
  refine ⟨this.1.1, this.1.2, fun hc => ?_⟩
  rcases this.2 with h | h
  ·rw [hc] at h; cases h
  ·exact h
 ·have hi := (Array.getElem?_eq_some_iff.1 ho).1
  have := List.all_eq_true.1 (List.all_eq_true.1 h4 i (List.mem_range.2 hi)) j (List.mem_range.2 hj)
  simp only [ho, hd, Bool.not_true, Bool.false_or] at this
  obtain ⟨e, he, hb⟩ := Array.any_eq_true'.1 this
  simp only [Bool.and_eq_true, Bool.or_eq_true, beq_iff_eq] at hb
  exact ⟨e, he, hb.1, hb.2⟩
 ·have hi := (Array.getElem?_eq_some_iff.1 ho).1
  have := List.all_eq_true.1 h5 i (List.mem_range.2 hi)
  rw [ho] at this
  have h2 := Array.all_eq_true'.1 this e he
  simpa [hb] using h2
 ·have := List.all_eq_true.1 h6 i (List.mem_range.2 (dst_lt hd))
  simp only [Bool.and_eq_true] at this
  unfold dstOf at hd
  rw [hd] at this
  simpa using this.1
 ·have := List.all_eq_true.1 h6 i (List.mem_range.2 (dst_lt hi))
  simp only [Bool.and_eq_true] at this
  have h2 := List.all_eq_true.1 this.2 j (List.mem_range.2 (dst_lt hj))
  unfold dstOf at hi hj
  rw [hi, hj] at h2
  simpa using h2
 ·have hi := (Array.getElem?_eq_some_iff.1 ho).1
  have := List.all_eq_true.1 h7 i (List.mem_range.2 hi)
  simp only [ho] at this
  have h2 := List.all_eq_true.1 (List.all_eq_true.1 this k hk) j (List.mem_range.2 (dst_lt hj))
  simp only [hj, bne_self_eq_false, Bool.false_or] at h2
  exact (Bool.or_eq_true _ _).mp h2
 ·have := List.all_eq_true.1 h8 a ha
  simp only [he, Bool.not_true, Bool.false_or, Bool.and_eq_true] at this
  refine ⟨this.1, fun b hb hne hs => ?_⟩
  have h2 := List.all_eq_true.1 this.2 b hb
  simp only [hs, Bool.not_true, Bool.or_false, Bool.or_eq_true, beq_iff_eq] at h2
  rcases h2 with (h2 | h2) | h2
  ·exact absurd h2 hne
  ·exact .inl h2
  ·exact .inr h2
 ·have := List.all_eq_true.1 h9 a ha
  simp only [hs, Bool.not_true, Bool.false_or] at this
  have h2 := List.all_eq_true.1 this j (List.mem_range.2 (dst_lt hj))
  simp only [hj, Bool.or_eq_true, beq_iff_eq] at h2
  rcases h2 with (h2 | h2) | h2
  ·exact absurd h2 hne
  ·exact .inl h2
  ·exact .inr (by simpa using h2)
 ·have := List.all_eq_true.1 h10 a ha
  simp only [hs, Bool.false_or] at this
  have h2 := List.all_eq_true.1 this d hd
  simp only [Bool.or_eq_true, beq_iff_eq, Bool.and_eq_true] at h2
  refine h2.imp id fun ⟨h3, h4⟩ => ⟨fun j hj => ?_, fun b hb hne he => ?_⟩
  ·have h5 := List.all_eq_true.1 h3 j (List.mem_range.2 (dst_lt hj))
   simpa [hj] using h5
  ·have h5 := List.all_eq_true.1 h4 b hb
   simp only [he, Bool.not_true, Bool.or_false, Bool.or_eq_true, beq_iff_eq] at h5
   rcases h5 with ((h5 | h5) | h5) | h5
   ·exact absurd h5 hne
   ·exact .inl h5
   ·exact .inr (.inl h5)
   ·exact .inr (.inr (by simpa using h5))
structure RInv (tb : TypeId → Option TI) (P : Program) (p : Nat) (ops : Array Oper) (cs : List CE) (s0 : St) (K : St → Prop) (w0 : World) (keep : Bs) (listed : Array Bool) (a : Act) (w : World) : Prop where
 size : listed.size = ops.size
 closed : ∀ j oj, ops[j]? = some oj → listed.getD j false = true → ∀ e ∈ oj.after, Region.binds .any e = true → listed.getD e.on false = true
 ex : ∃ (tr : Tr) (rest : List CE), tr.map (·.1) ++ rest.map (·.i) = cs.map (·.i) ∧ (∀ c ∈ rest, c ∈ cs) ∧ (∀ c, rest.head? = some c → callB ops c.i = true) ∧ TrOk P ops p cs s0 [] tr ∧
  (∀ y ∈ tr, callB ops y.1 = true → listed.getD y.1 false = true) ∧ opsD tb P p ops rest K (appL (dstOf ops) (fun _ => true) tr s0) ∧ (∀ i, listed.getD i false = true → i ∈ tr.map (·.1)) ∧
  ∃ E, Rel w0 keep E (appL (dstOf ops) (fun i => listed.getD i false) tr s0) a w
theorem dep_listed {ops : Array Oper} {nt : Nat} {B : List Nat} {cs : List CE} (F : RegF ops nt B cs) {listed : Array Bool} (hs : listed.size = ops.size) (hc : ∀ j oj, ops[j]? = some oj → listed.getD j false = true → ∀ e ∈ oj.after, Region.binds .any e = true → listed.getD e.on false = true) :
    ∀ i j, listed.getD i false = true → j < ops.size → depL B i j = true → listed.getD j false = true := by
 intro i
 induction i using Nat.strongRecOn with
 | _ i ih =>
  intro j hi hj hd
  have hlt : i < ops.size := by
   by_cases h : i < listed.size
   ·omega
   ·simp [h] at hi
  obtain ⟨e, he, hb, hor⟩ := F.dep i j ops[i] (by simp [hlt]) hj hd
  have hon := hc i _ (by simp [hlt]) hi e he hb
  rcases hor with rfl | hor
  ·exact hon
  ·exact ih e.on (F.back i _ (by simp [hlt]) e he hb) j hon hj hor
theorem ready_dep {ops : Array Oper} {nt : Nat} {B : List Nat} {cs : List CE} (F : RegF ops nt B cs) {listed : Array Bool} (hs : listed.size = ops.size) (hc : ∀ j oj, ops[j]? = some oj → listed.getD j false = true → ∀ e ∈ oj.after, Region.binds .any e = true → listed.getD e.on false = true)
    {i : Nat} {o : Oper} (ho : ops[i]? = some o) (hr : ∀ e ∈ o.after, Region.binds .any e = true → listed.getD e.on false = true) : ∀ j, j < ops.size → depL B i j = true → listed.getD j false = true := by
 intro j hj hd
 obtain ⟨e, he, hb, hor⟩ := F.dep i j o ho hj hd
 rcases hor with rfl | hor
 ·exact hr e he hb
 ·exact dep_listed F hs hc e.on j (hr e he hb) hj hor
theorem tr_pair {ops : Array Oper} {nt : Nat} {B : List Nat} {cs : List CE} (F : RegF ops nt B cs) {l1 l2 l3 : List Nat} {a b : Nat} (h : cs.map (·.i) = l1 ++ a :: (l2 ++ b :: l3)) : a ≠ b ∧ depL B a b = false ∧ (callB ops a = true → depL B b a = true) := by
 obtain ⟨c1, c2, e1, e2, e3⟩ := List.map_eq_append_iff.1 h
 obtain ⟨ca, c3, e4, e5, e6⟩ := List.map_eq_cons_iff.1 e3
 obtain ⟨c4, c5, e7, e8, e9⟩ := List.map_eq_append_iff.1 e6
 obtain ⟨cb, c6, e10, e11, e12⟩ := List.map_eq_cons_iff.1 e9
 have := F.pair c1 ca c4 cb c6 (by rw [e1, e4, e7, e10])
 rwa [e5, e11] at this
end
end Go.Proofs.YtmjpbmcbcppkfaaGreatDoor

/-! Abstract values: a region that draws its order: one order is enough: 'draw_of'. Conditions: its premises. -/
namespace Go.Proofs.YtmjpbmcbcppkfaaGreatDoor
set_option linter.unusedVariables false
set_option linter.unusedSimpArgs false
open Go.RowKit
section
variable {P : Program}
def Ids (ops : Array Oper) (p : Nat) (cs : List CE) (y : Nat × AV × Us) : Prop :=
 ∃ c ∈ cs, c.i = y.1 ∧ ∀ r, lastU y.2.2 r ≠ none → (∃ d, dstOf ops y.1 = some d ∧ r = p + d) ∨ (c.eff = true ∧ (c.sens = true → ∀ d ∈ c.forb, r ≠ rowC p d))
theorem ids_of {ops : Array Oper} {p : Nat} {cs : List CE} {s : St} {y : Nat × AV × Us} (h : OkY P ops p cs s y) : Ids ops p cs y := by
 obtain ⟨c, hc, o, h1, h2, h3, _⟩ := h
 refine ⟨c, hc, h1, fun r hr => ?_⟩
 rcases h3 r hr with h | ⟨h4, h5⟩
 ·left
  cases hd : o.dst with
  | none => rw [hd] at h; cases h
  | some d => rw [hd] at h; exact ⟨d, by simp [dstOf, h2, hd], (Option.some.inj h).symm⟩
 ·obtain ⟨e, he⟩ := Option.ne_none_iff_exists'.1 h5
  exact .inr ⟨h4, fun hs => by
   rcases (viewOf_get he).1 with q | q
   ·exact q.2
   ·rw [hs] at q; exact absurd q.1 (by simp)⟩
theorem ids_tr {ops : Array Oper} {p : Nat} {cs : List CE} {s0 : St} : ∀ {tr pre : Tr}, TrOk P ops p cs s0 pre tr → ∀ y ∈ tr, Ids ops p cs y
 | y :: tr, pre, h, z, hz => by
  rcases List.mem_cons.1 hz with rfl | hz
  ·exact ids_of h.1
  ·exact ids_tr h.2 z hz
structure Plc (cs : List CE) (i : Nat) (t1 t2 : Tr) : Prop where
 b : ∀ y ∈ t1, ∃ l1 l2 l3, cs.map (·.i) = l1 ++ y.1 :: (l2 ++ i :: l3)
 a : ∀ y ∈ t2, y.1 = i ∨ ∃ l1 l2 l3, cs.map (·.i) = l1 ++ i :: (l2 ++ y.1 :: l3)
theorem agree {ops : Array Oper} {nt p : Nat} {B : List Nat} {cs : List CE} (F : RegF ops nt B cs) {s0 : St} {listed : Array Bool} (hs : listed.size = ops.size) (hc : ∀ j oj, ops[j]? = some oj → listed.getD j false = true → ∀ e ∈ oj.after, Region.binds .any e = true → listed.getD e.on false = true)
    {i : Nat} {o : Oper} (ho : ops[i]? = some o) (hr : ∀ e ∈ o.after, Region.binds .any e = true → listed.getD e.on false = true) (hli : listed.getD i false = false) {c : CE} (hcc : c ∈ cs) (hci : c.i = i) {t1 t2 : Tr} (pl : Plc cs i t1 t2) (hid : ∀ y ∈ t1 ++ t2, Ids ops p cs y) :
    (∀ k ∈ looksOf ops o, getA (appL (dstOf ops) (fun j => listed.getD j false) (t1 ++ t2) s0).t k = getA (appL (dstOf ops) (fun _ => true) t1 s0).t k) ∧
    (∀ (r : Nat) (e : Ent), viewOf p c (appL (dstOf ops) (fun _ => true) t1 s0).H r = some e → (appL (dstOf ops) (fun j => listed.getD j false) (t1 ++ t2) s0).H[r]? = some e) := by
 have hrd := ready_dep F hs hc ho hr
 have hin : ∀ j, depL B j i = true → i < ops.size → listed.getD j false = false := by
  intro j hd hlt
  cases h : listed.getD j false with
  | false => rfl
  | true => have := dep_listed F hs hc j i h hlt hd; rw [hli] at this; cases this
 have hilt := (Array.getElem?_eq_some_iff.1 ho).1
 constructor
 ·intro k hk
  refine appL_same_t _ (fun y hy hd => ?_) (fun y hy hd => ?_)
  ·rcases F.look i o ho k hk y.1 hd with q | q
   ·exact hrd y.1 (dst_lt hd) q
   ·obtain ⟨l1, l2, l3, h⟩ := pl.b y hy
    have := (tr_pair F h).2.1
    rw [q] at this; cases this
  rcases pl.a y hy with h | ⟨l1, l2, l3, h⟩
  ·rw [h]; exact hli
  ·rcases F.look i o ho k hk y.1 hd with q | q
   ·have := (tr_pair F h).2.1
    rw [q] at this; cases this
   ·exact hin y.1 q hilt
 ·intro r e hv
  obtain ⟨hsens | ⟨hsens, d0, hd0, hrd0⟩, he⟩ := viewOf_get hv
  rotate_left
  ·-- its own row alone
   have hown := F.own c hcc hsens d0 hd0
   rw [hci] at hown
   rw [← he]
   have none_of : ∀ y ∈ t1 ++ t2, y.1 ≠ i → lastU y.2.2 r ≠ none → depL B y.1 i = true ∨ depL B i y.1 = true := by
    intro y hy hne ht
    obtain ⟨cy, hcy, hcyi, hids⟩ := hid y hy
    rcases hids r ht with ⟨d, hd, hrd⟩ | ⟨heff, hnf⟩
    ·have : d = d0 := rowC_inj (hrd.symm.trans hrd0)
     subst this
     rcases hown with hown | ⟨hown, _⟩
     ·exact absurd (F.dinj y.1 i d hd hown) hne
     ·exact .inr (hown y.1 hd)
    ·have hcs := (F.eff cy hcy heff).1
     rcases hown with hown | ⟨_, hown⟩
     ·rcases F.forb cy hcy hcs i d0 hown (by rw [hcyi]; exact Ne.symm hne) with h | h
      ·rw [hcyi] at h; exact .inl h
      ·exact absurd hrd0 (hnf hcs d0 h)
     ·rcases hown cy hcy (by rw [hcyi]; exact hne) heff with h | h | h
      ·rw [hcyi] at h; exact .inl h
      ·rw [hcyi] at h; exact .inr h
      ·exact absurd hrd0 (hnf hcs d0 h)
   refine appL_same_H _ (fun y hy ht => ?_) (fun y hy ht => ?_)
   ·obtain ⟨l1, l2, l3, hord⟩ := pl.b y hy
    obtain ⟨hne, hnd, _⟩ := tr_pair F hord
    rcases none_of y (by simp [hy]) hne ht with h | h
    ·rw [hnd] at h; cases h
    ·obtain ⟨cy, hcy, hcyi, _⟩ := hid y (by simp [hy])
     exact hrd y.1 (by rw [← hcyi]; exact F.range cy hcy) h
   ·rcases pl.a y hy with h | ⟨l1, l2, l3, hord⟩
    ·rw [h]; exact hli
    ·obtain ⟨hne, hnd, _⟩ := tr_pair F hord
     rcases none_of y (by simp [hy]) (Ne.symm hne) ht with h | h
     ·exact hin y.1 h hilt
     ·rw [hnd] at h; cases h
  obtain ⟨hsens, hforb⟩ := hsens
  rw [← he]
  refine appL_same_H _ (fun y hy ht => ?_) (fun y hy ht => ?_)
  ·obtain ⟨cy, hcy, hcyi, hids⟩ := hid y (by simp [hy])
   obtain ⟨l1, l2, l3, hord⟩ := pl.b y hy
   obtain ⟨hne, hnd, _⟩ := tr_pair F hord
   rcases hids r ht with ⟨d, hd, rfl⟩ | ⟨heff, _⟩
   ·rcases F.forb c hcc hsens y.1 d hd (by rw [hci]; exact hne) with h | h
    ·exact hrd y.1 (dst_lt hd) (by rw [← hci]; exact h)
    ·exact absurd (rowC_eq (Nat.lt_of_lt_of_le (F.dlt _ _ hd) F.small)).symm (hforb d h)
   ·have hylt := F.range cy hcy
    rcases (F.eff cy hcy heff).2 c hcc (by rw [hci, hcyi]; exact Ne.symm hne) hsens with h | h
    ·rw [hci, hcyi] at h; exact hrd y.1 (by omega) h
    ·rw [hci, hcyi, hnd] at h; cases h
  ·rcases pl.a y hy with h | ⟨l1, l2, l3, hord⟩
   ·rw [h]; exact hli
   ·obtain ⟨hne, hnd, _⟩ := tr_pair F hord
    obtain ⟨cy, hcy, hcyi, hids⟩ := hid y (by simp [hy])
    rcases hids r ht with ⟨d, hd, rfl⟩ | ⟨heff, _⟩
    ·rcases F.forb c hcc hsens y.1 d hd (by rw [hci]; exact Ne.symm hne) with h | h
     ·rw [hci, hnd] at h; cases h
     ·exact absurd (rowC_eq (Nat.lt_of_lt_of_le (F.dlt _ _ hd) F.small)).symm (hforb d h)
    ·rcases (F.eff cy hcy heff).2 c hcc (by rw [hci, hcyi]; exact hne) hsens with h | h
     ·rw [hci, hcyi, hnd] at h; cases h
     ·rw [hci, hcyi] at h; exact hin y.1 h hilt
theorem draw_of {tb : TypeId → Option TI} (htb : TbOk P tb) (hm : P.follows .mixedOrders = true) {p : Nat} {id : Nat} {ops : Array Oper} (B : List Nat) (cs : List CE) {s0 : St} {K : St → Prop} (hok : regOk ops s0.t.length B cs = true) (h : opsD tb P p ops cs K s0) : drawK P id ops K s0 := by
 have F := regF hok
 unfold drawK
 intro w0 keep E a w hR rr nn hoko
 obtain ⟨dst, hdst⟩ : ∃ dst, dst = dstOf ops := ⟨_, rfl⟩
 -- the trace's numbers are all unlike
 have hnodup : ∀ {l1 l2 : List Nat}, l1 ++ l2 = cs.map (·.i) → ∀ x, x ∈ l1 → x ∉ l2 := by
  intro l1 l2 hl x h1 h2
  obtain ⟨a1, a2, rfl⟩ := List.append_of_mem h1
  obtain ⟨b1, b2, rfl⟩ := List.append_of_mem h2
  have := tr_pair F (l1 := a1) (l2 := a2 ++ b1) (l3 := b2) (a := x) (b := x) (by rw [← hl]; simp)
  exact this.1 rfl
 have fin' : ∀ (listed : Array Bool) (a : Act) (w : World), RInv tb P p ops cs s0 K w0 keep listed a w → Region.ready .any ops listed = [] → (fun e a' w' => e = Exit.normal ∧ ∃ s' E', Rel w0 keep E' s' a' w' ∧ K s') Exit.normal a w := by
  intro listed a w hI hready
  have hall : ∀ i, i < ops.size → listed.getD i false = true := by
   intro i
   induction i using Nat.strongRecOn with
   | _ i ih =>
    intro hi
    cases hl : listed.getD i false with
    | true => rfl
    | false =>
     exfalso
     have hk : i ∈ Region.ready .any ops listed := by
      unfold Region.ready
      refine List.mem_filter.2 ⟨List.mem_range.2 hi, ?_⟩
      have hli : i < listed.size := by rw [hI.size]; exact hi
      have hl' : listed.getD i true = false := by simpa [Array.getD, hli] using hl
      simp only [hl', Bool.not_false, Bool.true_and, Array.getElem?_eq_getElem hi, Option.map_some, Option.getD_some]
      refine Array.all_eq_true'.2 fun e he => ?_
      cases hbe : Region.binds .any e
      ·simp
      ·have hb := F.back i _ (by simp [hi]) e he hbe
       simp [ih e.on hb (by omega)]
     rw [hready] at hk
     cases hk
  obtain ⟨tr, rest, h1, h2, h3, h4, h5, h6, h7, E, hE⟩ := hI.ex
  have hrest : rest = [] := by
   cases rest with
   | nil => rfl
   | cons c rest =>
    exfalso
    have hc := h7 c.i (hall c.i (F.range c (h2 c (by simp))))
    exact hnodup h1 c.i hc (by simp)
  subst hrest
  have heq : appL (dstOf ops) (fun i => listed.getD i false) tr s0 = appL (dstOf ops) (fun _ => true) tr s0 := by
   refine appL_congr _ fun y hy => ?_
   have : y.1 ∈ cs.map (·.i) := by rw [← h1]; simp; exact ⟨_, _, hy⟩
   obtain ⟨c, hc, hci⟩ := List.mem_map.1 this
   rw [hall y.1 (by rw [← hci]; exact F.range c hc)]
  exact ⟨rfl, _, E, hE, by rw [heq]; exact h6⟩
 have key : ∀ (fuel : Nat) (listed : Array Bool) (a : Act) (w : World), RInv tb P p ops cs s0 K w0 keep listed a w → ((List.range ops.size).filter (fun i => !listed.getD i true)).length ≤ fuel → wpAnyIn (FR rr) nn P .any ops (fun e a' w' => e = Exit.normal ∧ ∃ s' E', Rel w0 keep E' s' a' w' ∧ K s') fuel listed a w := by
  intro fuel
  induction fuel with
  | zero =>
   intro listed a w hI hf
   have hnil : Region.ready .any ops listed = [] := by
    refine List.eq_nil_iff_forall_not_mem.2 fun i hi => ?_
    obtain ⟨h1, h2, _⟩ := mem_ready' hi
    have : i ∈ (List.range ops.size).filter (fun i => !listed.getD i true) := List.mem_filter.2 ⟨List.mem_range.2 h1, by simp [h2]⟩
    rw [List.eq_nil_of_length_eq_zero (Nat.le_zero.1 hf)] at this
    cases this
   exact ⟨hnil, fin' listed a w hI hnil⟩
  | succ fuel ih =>
   intro listed a w hI hf
   refine ⟨fin' listed a w hI, fun i hi => ?_⟩
   obtain ⟨hilt, h2, o, ho, hedges⟩ := mem_ready' hi
   have hli : i < listed.size := by rw [hI.size]; exact hilt
   have hl0 : listed.getD i false = false := by simpa [Array.getD, hli] using h2
   have hget : ∀ j, (listed.setIfInBounds i true).getD j false = (listed.getD j false || j == i) := by
    intro j
    by_cases hj : j = i
    ·subst hj; simp [hli]
    ·simp [Array.getElem?_setIfInBounds_ne (Ne.symm hj), hj]
   have hfuel : ((List.range ops.size).filter (fun k => !(listed.setIfInBounds i true).getD k true)).length ≤ fuel := by
    have : ((List.range ops.size).filter (fun k => !(listed.setIfInBounds i true).getD k true)).length < ((List.range ops.size).filter (fun k => !listed.getD k true)).length := by
     have e : (List.range ops.size).filter (fun k => !(listed.setIfInBounds i true).getD k true) = ((List.range ops.size).filter (fun k => !listed.getD k true)).filter (fun k => k != i) := by
      rw [List.filter_filter]
      refine List.filter_congr fun k hk => ?_
      by_cases hki : k = i
      ·subst hki; simp [hli]
      ·simp [Array.getElem?_setIfInBounds_ne (Ne.symm hki), hki]
     rw [e]
     have hmem : i ∈ (List.range ops.size).filter (fun k => !listed.getD k true) := List.mem_filter.2 ⟨List.mem_range.2 hilt, by simp [h2]⟩
     exact List.length_filter_lt_length_iff_exists.2 ⟨i, hmem, by simp⟩
    omega
   have hclosed' : ∀ j oj, ops[j]? = some oj → (listed.setIfInBounds i true).getD j false = true → ∀ e ∈ oj.after, Region.binds .any e = true → (listed.setIfInBounds i true).getD e.on false = true := by
    intro j oj hoj hl e he hb
    rw [hget] at hl ⊢
    simp only [Bool.or_eq_true, beq_iff_eq] at hl ⊢
    rcases hl with hl | rfl
    ·exact .inl (hI.closed j oj hoj hl e he hb)
    ·obtain rfl : o = oj := Option.some.inj (ho.symm.trans hoj)
     exact .inl (hedges e he hb)
   obtain ⟨tr, rest, h1, hin, h3, h4, h5, h6, h7, E, hE⟩ := hI.ex
   have hids := ids_tr h4
   have hdo : dstOf ops i = o.dst := by simp [dstOf, ho]
   -- how the step ends
   have done : ∀ {post : AV → Us → Prop}, (∀ v us (E' : Env) (w' : World) (a' : Act), post v us → Rel w0 keep E' ⟨setD (appL (dstOf ops) (fun j => listed.getD j false) tr s0).t o.dst v, updH (appL (dstOf ops) (fun j => listed.getD j false) tr s0).H us⟩ a' w' → RInv tb P p ops cs s0 K w0 keep (listed.setIfInBounds i true) a' w') →
       ((Region.wanted o (yielded ops a.tmps) = true ∧ o.wp P a w (fun a' w' => ∃ v us E', post v us ∧ Rel w0 keep E' ⟨setD (appL (dstOf ops) (fun j => listed.getD j false) tr s0).t o.dst v, updH (appL (dstOf ops) (fun j => listed.getD j false) tr s0).H us⟩ a' w') (fun e a' w' => e = Exit.normal ∧ ∃ s' E', Rel w0 keep E' s' a' w' ∧ K s')) ∨
        (Region.wanted o (yielded ops a.tmps) = false ∧ ∃ v us, post v us ∧ Rel w0 keep E ⟨setD (appL (dstOf ops) (fun j => listed.getD j false) tr s0).t o.dst v, updH (appL (dstOf ops) (fun j => listed.getD j false) tr s0).H us⟩ (a.put o.dst undef) w)) →
       wpOpIn (FR rr) nn P ops (fun e a' w' => e = Exit.normal ∧ ∃ s' E', Rel w0 keep E' s' a' w' ∧ K s') i (wpAnyIn (FR rr) nn P .any ops (fun e a' w' => e = Exit.normal ∧ ∃ s' E', Rel w0 keep E' s' a' w' ∧ K s') fuel (listed.setIfInBounds i true)) a w := by
    intro post hnext hx
    unfold wpOpIn
    simp only [ho]
    rcases hx with ⟨hw, hwp⟩ | ⟨hw, v, us, hp, hR'⟩
    ·rw [if_pos hw]
     exact Oper.wpIn_mono (fun a' w' ⟨v, us, E', hp, hR'⟩ => ih _ _ _ (hnext v us E' w' a' hp hR') hfuel) (owp_of hwp rr nn (hoko o (Array.mem_toList_iff.2 (Array.mem_of_getElem? ho))))
    ·rw [if_neg (by rw [hw]; simp)]
     exact ⟨fun _ _ => trivial, ih _ _ _ (hnext v us E w _ hp hR') hfuel⟩
   obtain ⟨cI, hcI, hcIi⟩ := F.cover i hilt
   by_cases hmem : i ∈ tr.map (·.1)
   ·obtain ⟨y, hy, hyi⟩ := List.mem_map.1 hmem
    obtain ⟨t1, t2, htr⟩ := List.append_of_mem hy
    have hbefore : ∀ z ∈ t1, ∃ l1 l2 l3, cs.map (·.i) = l1 ++ z.1 :: (l2 ++ i :: l3) := by
     intro z hz
     obtain ⟨a1, a2, rfl⟩ := List.append_of_mem hz
     exact ⟨a1.map (·.1), a2.map (·.1), t2.map (·.1) ++ rest.map (·.i), by rw [← h1, htr]; simp [hyi]⟩
    have hbehind : ∀ z ∈ t2, ∃ l1 l2 l3, cs.map (·.i) = l1 ++ i :: (l2 ++ z.1 :: l3) := by
     intro z hz
     obtain ⟨b1, b2, rfl⟩ := List.append_of_mem hz
     exact ⟨t1.map (·.1), b1.map (·.1), b2.map (·.1) ++ rest.map (·.i), by rw [← h1, htr]; simp [hyi]⟩
    have hncall : callB ops i = false := by
     cases hc : callB ops i with
     | false => rfl
     | true =>
      have := h5 y hy (by rw [hyi]; exact hc)
      rw [hyi, hl0] at this; cases this
    rw [htr] at h4 hids hE done
    obtain ⟨c, hcc, o', hci, ho', hidy, hexy⟩ := TrOk_at h4
    rw [hyi] at ho' hci
    obtain rfl : o = o' := Option.some.inj (ho.symm.trans ho')
    obtain ⟨us0, hok0, hfilt, hex⟩ := hexy (by simpa [callB, ho] using hncall)
    have pl : Plc cs i t1 (y :: t2) := ⟨hbefore, fun z hz => by
     rcases List.mem_cons.1 hz with rfl | hz
     ·exact .inl hyi
     ·exact .inr (hbehind z hz)⟩
    have ag := agree F (s0 := s0) hI.size hI.closed ho hedges hl0 hcc hci pl hids
    refine done (post := fun v us => v = y.2.1 ∧ us = us0) ?_ (hex w0 keep E _ a w _ hE ag.1 ag.2)
    rintro v us E' w' a' ⟨rfl, rfl⟩ hR'
    have hgo : (⟨setD (appL (dstOf ops) (fun j => listed.getD j false) (t1 ++ y :: t2) s0).t o.dst y.2.1, updH (appL (dstOf ops) (fun j => listed.getD j false) (t1 ++ y :: t2) s0).H us⟩ : St) = appL (dstOf ops) (fun j => (listed.setIfInBounds i true).getD j false) (t1 ++ y :: t2) s0 := by
     rw [filt_eq hok0 (fun r e _ h => ag.2 r e h), hfilt, ← hdo]
     have ey : y = (i, y.2.1, y.2.2) := by rw [← hyi]
     have hadd := appL_add (dstOf ops) (L := fun j => listed.getD j false) (t1 := t1) (t2 := t2) (i := i) (v := y.2.1) (us := y.2.2) (s := s0) hl0 (fun z hz => ?_) (fun z hz => ?_) (fun z hz k hk1 hk2 => ?_) (fun z hz r hr1 hr2 => ?_)
     ·rw [← ey] at hadd
      have hfun : (fun j => (listed.setIfInBounds i true).getD j false) = fun j => listed.getD j false || j == i := funext hget
      rw [hfun, hadd]; rfl
     ·obtain ⟨l1, l2, l3, hord⟩ := hbefore z hz
      exact (tr_pair F hord).1
     ·obtain ⟨l1, l2, l3, hord⟩ := hbehind z hz
      exact Ne.symm (tr_pair F hord).1
     ·obtain ⟨l1, l2, l3, hord⟩ := hbehind z hz
      exact absurd (F.dinj _ _ _ hk1 hk2) (tr_pair F hord).1
     ·obtain ⟨l1, l2, l3, hord⟩ := hbehind z hz
      obtain ⟨hne, hnd, _⟩ := tr_pair F hord
      obtain ⟨cz, hcz, hczi, hidz⟩ := hids z (by simp [hz])
      have hzlt := F.range cz hcz
      rw [hczi] at hzlt
      have hfalse : depL B z.1 i = true → listed.getD z.1 false = false := by
       intro hd
       cases hlz : listed.getD z.1 false with
       | false => rfl
       | true => have := dep_listed F hI.size hI.closed z.1 i hlz hilt hd; rw [hl0] at this; cases this
      obtain ⟨ci, hci', hcii, hidi⟩ := hids y (by simp)
      rw [hyi] at hcii hidi
      rcases hidi r hr1 with ⟨d, hd, rfl⟩ | ⟨heff, hfo⟩
      ·rcases hidz _ hr2 with ⟨d', hd', he⟩ | ⟨heff', hfo'⟩
       ·have : d = d' := Nat.add_left_cancel he
        subst this
        exact absurd (F.dinj _ _ _ hd hd') hne
       ·rcases F.forb cz hcz (F.eff cz hcz heff').1 i d hd (by rw [hczi]; exact hne) with h | h
        ·rw [hczi] at h; exact hfalse h
        ·exact absurd (rowC_eq (Nat.lt_of_lt_of_le (F.dlt _ _ hd) F.small)).symm (hfo' (F.eff cz hcz heff').1 d h)
      ·have hsens := (F.eff ci hci' heff).1
       rcases hidz _ hr2 with ⟨d', hd', he⟩ | ⟨heff', hfo'⟩
       ·rcases F.forb ci hci' hsens z.1 d' hd' (by rw [hcii]; exact Ne.symm hne) with h | h
        ·rw [hcii, hnd] at h; cases h
        ·exact absurd (he.trans (rowC_eq (Nat.lt_of_lt_of_le (F.dlt _ _ hd') F.small)).symm) (hfo hsens d' h)
       ·rcases (F.eff ci hci' heff).2 cz hcz (by rw [hcii, hczi]; exact Ne.symm hne) (F.eff cz hcz heff').1 with h | h
        ·rw [hcii, hczi] at h; exact hfalse h
        ·rw [hcii, hczi, hnd] at h; cases h
    rw [hgo] at hR'
    refine ⟨by simp [hI.size], hclosed', t1 ++ y :: t2, rest, by rw [← htr]; exact h1, hin, h3, h4, fun z hz hc => ?_, by rw [← htr]; exact h6, fun j hj => ?_, E', hR'⟩
    ·rw [hget, h5 z (by rw [htr]; exact hz) hc]; rfl
    ·rw [hget] at hj
     simp only [Bool.or_eq_true, beq_iff_eq] at hj
     rw [← htr]
     rcases hj with hj | rfl
     ·exact h7 j hj
     ·exact hmem
   ·have hirest : i ∈ rest.map (·.i) := by
      have : i ∈ cs.map (·.i) := List.mem_map.2 ⟨cI, hcI, hcIi⟩
      rw [← h1] at this
      exact (List.mem_append.1 this).resolve_left hmem
    cases rest with
    | nil => simp at hirest
    | cons c rest =>
     have hccall := h3 c rfl
     have hci : c.i = i := by
      simp only [List.map_cons, List.mem_cons] at hirest
      rcases hirest with h | h
      ·exact h.symm
      ·exfalso
       obtain ⟨l2, l3, hl⟩ := List.append_of_mem h
       have hord : cs.map (·.i) = tr.map (·.1) ++ c.i :: (l2 ++ i :: l3) := by rw [← h1]; simp [hl]
       have hd := (tr_pair F hord).2.2 hccall
       have hlis := ready_dep F hI.size hI.closed ho hedges c.i (F.range c (hin c (by simp))) hd
       exact hnodup h1 c.i (h7 _ hlis) (by simp)
     have hcc := hin c (by simp)
     unfold opsD at h6
     rw [getN_eq, hci] at h6
     have hol : ops.toList[i]? = some o := by simpa using ho
     rw [hol] at h6
     simp only at h6
     obtain ⟨post, hpost, hex, _⟩ := opD_data htb h6
     have pl : Plc cs i tr [] := ⟨fun z hz => by
      obtain ⟨a1, a2, rfl⟩ := List.append_of_mem hz
      exact ⟨a1.map (·.1), a2.map (·.1), rest.map (·.i), by rw [← h1]; simp [hci]⟩, fun z hz => by simp at hz⟩
     have ag := agree F (s0 := s0) hI.size hI.closed ho hedges hl0 hcc hci pl (by simpa using hids)
     rw [List.append_nil] at ag
     refine done (post := post) ?_ (hex w0 keep E _ a w _ hE ag.1 ag.2)
     intro v us E' w' a' hp hR'
     obtain ⟨hok0, hK⟩ := hpost v us hp
     have hiscall : isCall o = true := by rw [hci] at hccall; simpa [callB, ho] using hccall
     have hcan : (⟨setD (appL (dstOf ops) (fun _ => true) tr s0).t o.dst v, updH (appL (dstOf ops) (fun _ => true) tr s0).H us⟩ : St) = appL (dstOf ops) (fun _ => true) (tr ++ [(i, v, filtU (ownId p o.dst) c.eff us)]) s0 := by
      rw [appL_append]
      simp only [appL, if_true, app1, hdo]
      rw [← filt_eq hok0 (fun r e _ h => (viewOf_get h).2)]
     rw [hcan] at hK
     have hT' : TrOk P ops p cs s0 [] (tr ++ [(i, v, filtU (ownId p o.dst) c.eff us)]) := by
      refine TrOk_append.2 ⟨h4, ?_, trivial⟩
      exact ⟨c, hcc, o, hci, ho, fun r hr => by simpa using filt_last hok0 r hr, fun hn => by rw [hiscall] at hn; cases hn⟩
     obtain ⟨t2, rest2, g1, g2, g3, g4, g5, g6⟩ := saturate (P := P) htb rest _ (fun c' h' => hin c' (by simp [h'])) hT' hK
     have hord : ((tr ++ [(i, v, filtU (ownId p o.dst) c.eff us)]) ++ t2).map (·.1) ++ rest2.map (·.i) = cs.map (·.i) := by
      rw [← h1]; simp only [List.map_append, List.map_cons, List.map_nil, List.append_assoc, g1, hci]; simp
     have hnew : ∀ z ∈ t2, (listed.setIfInBounds i true).getD z.1 false = false := by
      intro z hz
      cases hlz : (listed.setIfInBounds i true).getD z.1 false with
      | false => rfl
      | true =>
       exfalso
       rw [hget] at hlz
       simp only [Bool.or_eq_true, beq_iff_eq] at hlz
       have hzin : z.1 ∈ (tr ++ [(i, v, filtU (ownId p o.dst) c.eff us)]).map (·.1) := by
        rcases hlz with h | h
        ·simp only [List.map_append, List.mem_append]; exact .inl (h7 _ h)
        ·simp [h]
       have hord2 : (tr ++ [(i, v, filtU (ownId p o.dst) c.eff us)]).map (·.1) ++ (t2.map (·.1) ++ rest2.map (·.i)) = cs.map (·.i) := by
        rw [← hord]; simp
       exact hnodup hord2 z.1 hzin (by simp only [List.mem_append]; exact .inl (List.mem_map.2 ⟨z, hz, rfl⟩))
     have hgo : (⟨setD (appL (dstOf ops) (fun j => listed.getD j false) tr s0).t o.dst v, updH (appL (dstOf ops) (fun j => listed.getD j false) tr s0).H us⟩ : St) = appL (dstOf ops) (fun j => (listed.setIfInBounds i true).getD j false) ((tr ++ [(i, v, filtU (ownId p o.dst) c.eff us)]) ++ t2) s0 := by
      rw [appL_append (a := tr ++ [(i, v, filtU (ownId p o.dst) c.eff us)]) (b := t2), appL_idle (a := t2) _ hnew, appL_append (a := tr) (b := [(i, v, filtU (ownId p o.dst) c.eff us)])]
      have hii : (listed.setIfInBounds i true).getD i false = true := by rw [hget]; simp
      simp only [appL, hii, if_true, app1, hdo]
      rw [filt_eq hok0 (fun r e _ h => ag.2 r e h)]
      have hcg : appL (dstOf ops) (fun j => (listed.setIfInBounds i true).getD j false) tr s0 = appL (dstOf ops) (fun j => listed.getD j false) tr s0 := by
       refine appL_congr _ fun z hz => ?_
       have hzi : z.1 ≠ i := fun e => hmem (by rw [← e]; exact List.mem_map.2 ⟨z, hz, rfl⟩)
       rw [hget]; simp [hzi]
      rw [hcg]
     rw [hgo] at hR'
     refine ⟨by simp [hI.size], hclosed', _, rest2, hord, g2, g3, g4, fun z hz hc => ?_, g6, fun j hj => ?_, E', hR'⟩
     ·rcases List.mem_append.1 hz with hz | hz
      ·rcases List.mem_append.1 hz with hz | hz
       ·rw [hget, h5 z hz hc]; rfl
       ·simp only [List.mem_singleton] at hz
        subst hz
        rw [hget]; simp
      ·rw [g5 z hz] at hc; cases hc
     ·rw [hget] at hj
      simp only [Bool.or_eq_true, beq_iff_eq] at hj
      simp only [List.map_append, List.mem_append]
      rcases hj with hj | rfl
      ·exact .inl (.inl (h7 j hj))
      ·exact .inl (.inr (by simp))
 refine wpIn_region_any hm (key ops.size _ _ _ ?_ ?_)
 ·obtain ⟨t2, rest2, g1, g2, g3, g4, g5, g6⟩ := saturate (P := P) htb (s0 := s0) (K := K) cs [] (fun _ h => h) trivial h
  refine ⟨by simp, ?_, t2, rest2, g1, g2, g3, by simpa using g4, ?_, by simpa using g6, ?_, E, ?_⟩
  ·intro j oj hoj hl
   exfalso
   have hj := (Array.getElem?_eq_some_iff.1 hoj).1
   simp [hj] at hl
  ·intro y hy hcl
   rw [g5 y hy] at hcl; cases hcl
  ·intro j hj
   exfalso
   by_cases h : j < ops.size <;> simp [h] at hj
  ·rw [appL_idle _ (fun y hy => by by_cases h : y.1 < ops.size <;> simp [h])]
   exact hR.drew
 ·exact Nat.le_trans (List.length_filter_le _ _) (by simp)
end
end Go.Proofs.YtmjpbmcbcppkfaaGreatDoor

/-! Small laws for walks. Conditions: none. -/
namespace Go.Proofs.YtmjpbmcbcppkfaaGreatDoor
set_option linter.unusedVariables false
set_option linter.unusedSimpArgs false
def I64 (n : Int) : Prop := -9223372036854775808 ≤ n ∧ n ≤ 9223372036854775807
theorem u8_hi (b : UInt8) : ((b.toNat : Int) ≤ 255) = True := by have := UInt8.toNat_lt b; simp; omega
theorem u8_and (a b : UInt8) : UInt8.ofNat (((a.toNat : Int).toNat &&& (b.toNat : Int).toNat : Nat) : Int).toNat = a &&& b := by
 simp only [Int.toNat_natCast]
 rw [← UInt8.toNat_and, UInt8.ofNat_toNat]
theorem u8_ahi (a b : UInt8) : ((((a.toNat : Int).toNat &&& (b.toNat : Int).toNat : Nat) : Int) ≤ 255) = True := by
 have := UInt8.toNat_lt (a &&& b); rw [UInt8.toNat_and] at this; simp only [Int.toNat_natCast]; simp; omega
theorem u8_ohi (a b : UInt8) : ((((a.toNat : Int).toNat ||| (b.toNat : Int).toNat : Nat) : Int) ≤ 255) = True := by
 have := UInt8.toNat_lt (a ||| b); rw [UInt8.toNat_or] at this; simp only [Int.toNat_natCast]; simp; omega
theorem u8_xhi (a b : UInt8) : ((((a.toNat : Int).toNat ^^^ (b.toNat : Int).toNat : Nat) : Int) ≤ 255) = True := by
 have := UInt8.toNat_lt (a ^^^ b); rw [UInt8.toNat_xor] at this; simp only [Int.toNat_natCast]; simp; omega
theorem nn (n : Nat) : (0 ≤ (n : Int)) = True := by simp
end Go.Proofs.YtmjpbmcbcppkfaaGreatDoor

/-! Calls of functions whose answer is given as a value and rows. Conditions: none. -/
namespace Go.Proofs.YtmjpbmcbcppkfaaGreatDoor
set_option linter.unusedVariables false
set_option linter.unusedSimpArgs false
open Go.RowKit
def pst (X : AV) (rows : List Ent) : AV → List Ent → Prop := fun x H => ∃ tl, x = X ∧ H = rows ++ tl
def allR (Q : Nat → Ent → Prop) : List Ent → Nat → Prop
 | [], _ => True
 | e :: es, n => Q n e ∧ allR Q es (n + 1)
theorem allR_get {Q : Nat → Ent → Prop} : ∀ {l : List Ent} {n r : Nat} {e : Ent}, allR Q l n → l[r]? = some e → Q (n + r) e
 | [], n, r, e, _, h => by simp at h
 | x :: l, n, 0, e, hq, h => by simp only [List.getElem?_cons_zero, Option.some.injEq] at h; subst h; exact hq.1
 | x :: l, n, r + 1, e, hq, h => by
  simp only [List.getElem?_cons_succ] at h
  have := allR_get hq.2 h
  rw [show n + (r + 1) = n + 1 + r by omega]; exact this
theorem allR_mono {Q Q' : Nat → Ent → Prop} (h : ∀ r e, Q r e → Q' r e) : ∀ {l : List Ent} {n : Nat}, allR Q l n → allR Q' l n
 | [], n, _ => trivial
 | x :: l, n, hq => ⟨h _ _ hq.1, allR_mono h hq.2⟩
def rl (sg : List Nat) : Ren := ⟨fun r => getN' sg r, fun _ => 0⟩
where getN' : List Nat → Nat → Nat
 | [], _ => 0
 | x :: _, 0 => x
 | _ :: xs, r + 1 => getN' xs r
theorem getN'_eq : ∀ (l : List Nat) (r : Nat), rl.getN' l r = l.getD r 0
 | [], r => by simp [rl.getN']
 | x :: l, 0 => by simp [rl.getN']
 | x :: l, r + 1 => by simp [rl.getN', getN'_eq l r]
theorem usM_app {R : Ren} {rows tl : List Ent} : ∀ {rs : List Nat}, (∀ r, r ∈ rs → r < rows.length) → usM R (rows ++ tl) rs = usM R rows rs
 | [], _ => rfl
 | r :: rs, h => by
  have hr := h r (by simp)
  have : entOf (rows ++ tl) r = entOf rows r := by
   unfold entOf
   rw [getL_eq, getL_eq, List.getElem?_append_left hr]
  simp only [usM, this]
  rw [usM_app (fun r' h' => h r' (by simp [h']))]
def rngL : List Nat → Nat → List Nat
 | [], _ => []
 | _ :: xs, n => n :: rngL xs (n + 1)
theorem rngL_eq : ∀ (l : List Nat) (n : Nat), rngL l n = List.range' n l.length
 | [], n => rfl
 | x :: l, n => by rw [rngL, rngL_eq l (n + 1)]; rfl
theorem call_det {P : Program} {f : FuncId} {args0 : List AV} {H0 : List Ent} {X : AV} {rows : List Ent} (S : Spec P f args0 H0 (pst X rows)) (hent : ∀ (as' : Array Value) (w : World), (callFunc f as').run P w = .ok (.enter f as') w)
    (sg : List Nat) (hl : H0.length = sg.length) (hlr : rows.length = sg.length) (hnd : sg.Nodup) {args caps : List AV} {hg : Nat → Option Ent} (hargs : args ++ caps = renAs (rl sg) args0)
    (hon : onAs (· < sg.length) args0) (hrows : allR (fun r e => onB (· < sg.length) e.bd ∧ hg ((rl sg).σ r) = some ⟨e.ver, renB (rl sg) e.bd⟩) H0 0)
    (hX : onA (· < sg.length) X) (hr2 : allR (fun _ e => onB (· < sg.length) e.bd) rows 0) {K : AV → List (Nat × Ent) → Prop} (hK : K (renA (rl sg) X) (usM (rl sg) rows (rngL sg 0))) :
    callK P (.clo f caps) args hg K := by
 rw [rngL_eq, ← List.range_eq_range'] at hK
 have hm : ∀ r, r ∈ List.range sg.length ↔ r < sg.length := fun r => List.mem_range
 have e1 : (fun r => r ∈ List.range sg.length) = (fun r => r < sg.length) := by funext r; exact propext (hm r)
 refine callK_of (call_sem S hent (rl sg) (List.range sg.length) List.nodup_range ?_ ?_ hargs ?_ ?_ ?_ ?_) ?_
 ·intro r h; exact ⟨(hm r).2 (by omega), rfl⟩
 ·intro a b ha hb h
  rw [hm] at ha hb
  simp only [rl, getN'_eq] at h
  rw [List.getD_eq_getElem?_getD, List.getD_eq_getElem?_getD, List.getElem?_eq_getElem ha, List.getElem?_eq_getElem hb] at h
  simp only [Option.getD_some] at h
  have hp := List.pairwise_iff_getElem.1 hnd
  rcases Nat.lt_trichotomy a b with q | q | q
  ·exact absurd h (hp a b ha hb q)
  ·exact q
  ·exact absurd h.symm (hp b a hb ha q)
 ·rw [hl]; exact hon
 ·intro r e h
  have := allR_get hrows h
  rw [Nat.zero_add] at this
  rw [hl]; exact ⟨this.1, _, this.2, WeakE.refl _⟩
 ·intro r h1 h2
  rw [hm] at h1; omega
 ·rintro x H1 ⟨tl, rfl, rfl⟩
  rw [e1]
  refine ⟨hX, fun r hr => ?_⟩
  rw [hm] at hr
  have hr' : r < rows.length := by omega
  refine ⟨by simp; omega, ?_⟩
  have : entOf (rows ++ tl) r = rows[r] := by
   unfold entOf
   rw [getL_eq, List.getElem?_append_left hr', List.getElem?_eq_getElem hr']
  rw [this]
  exact allR_get hr2 (List.getElem?_eq_getElem hr')
 ·rintro v us ⟨x0, H1, ⟨tl, rfl, rfl⟩, rfl, rfl⟩
  rw [usM_app (fun r hr => by rw [hm] at hr; omega)]
  exact hK
theorem loop_of {B : (Ex → St → Prop) → St → Prop} {Q : Ex → St → Prop} {s : St} {σ : Type} (I : σ → St) (μ : σ → Nat) (x0 : σ) (hT : leT s.t (I x0).t) (hH : leH s.H (I x0).H) (h : ∀ x, B (backK I μ x Q) (I x)) : loopK B Q s := by
 unfold loopK
 exact ⟨σ, I, μ, x0, leS_of hT hH, h⟩
/-! a loop, by what its body turns -/
def anyT : List Nat → List AV → List AV
 | [], t => t
 | a :: as, t => anyT as (setL t a .any)
def putT : List (Nat × AV) → List AV → List AV
 | [], t => t
 | (a, x) :: l, t => putT l (setL t a x)
def deadH (v : Nat → Nat) (p : Nat) : List Nat → List Ent → List Ent
 | [], H => H
 | a :: as, H => deadH v p as (setL H (p + a) ⟨v (p + a), .dead⟩)
def putH : List (Nat × Ent) → List Ent → List Ent
 | [], H => H
 | (r, e) :: l, H => putH l (setL H r e)
def lpS {σ : Type} (p : Nat) (as : List Nat) (ts : σ → List (Nat × AV)) (hs : σ → List (Nat × Ent)) (t : List AV) (H : List Ent) (y : σ) (v : Nat → Nat) : St := ⟨putT (ts y) (anyT as t), putH (hs y) (deadH v p as H)⟩
def backA {σ : Type} {Inv : σ → Prop} (μ : σ → Nat) (p : Nat) (as : List Nat) (ts : σ → List (Nat × AV)) (hs : σ → List (Nat × Ent)) (t : List AV) (H : List Ent) (x : {y : σ × (Nat → Nat) // Inv y.1}) (Q : Ex → St → Prop) : Ex → St → Prop :=
 backK (fun y : {y : σ × (Nat → Nat) // Inv y.1} => lpS p as ts hs t H y.1.1 y.1.2) (fun y => μ y.1.1) x Q
theorem loop_at {B : (Ex → St → Prop) → St → Prop} {Q : Ex → St → Prop} {t : List AV} {H : List Ent} {σ : Type} (Inv : σ → Prop) (μ : σ → Nat) (p : Nat) (as : List Nat) (ts : σ → List (Nat × AV)) (hs : σ → List (Nat × Ent)) (x0 : σ) (h0 : Inv x0)
    (hT : leT t (lpS p as ts hs t H x0 (fun r => (entOf H r).ver)).t) (hH : leH H (lpS p as ts hs t H x0 (fun r => (entOf H r).ver)).H)
    (h : ∀ (x : σ) (v : Nat → Nat) (hx : Inv x), B (backA μ p as ts hs t H ⟨(x, v), hx⟩ Q) (lpS p as ts hs t H x v)) : loopK B Q ⟨t, H⟩ :=
 loop_of (fun y : {y : σ × (Nat → Nat) // Inv y.1} => lpS p as ts hs t H y.1.1 y.1.2) (fun y => μ y.1.1) ⟨(x0, fun r => (entOf H r).ver), h0⟩ hT hH fun ⟨(x, v), hx⟩ => h x v hx
theorem back_at {σ : Type} {Inv : σ → Prop} {μ : σ → Nat} {p : Nat} {as : List Nat} {ts : σ → List (Nat × AV)} {hs : σ → List (Nat × Ent)} {t : List AV} {H : List Ent} {x : {y : σ × (Nat → Nat) // Inv y.1}} {Q : Ex → St → Prop} {s : St} (y : σ) (hI : Inv y) (hμ : μ y < μ x.1.1)
    (hT : leT s.t (lpS p as ts hs t H y (fun r => (entOf s.H r).ver)).t) (hH : leH s.H (lpS p as ts hs t H y (fun r => (entOf s.H r).ver)).H) : backA μ p as ts hs t H x Q .normal s := ⟨⟨(y, fun r => (entOf s.H r).ver), hI⟩, leS_of hT hH, hμ⟩
end Go.Proofs.YtmjpbmcbcppkfaaGreatDoor

/-! Functions that make a row. Conditions: none. -/
namespace Go.Proofs.YtmjpbmcbcppkfaaGreatDoor
set_option linter.unusedVariables false
set_option linter.unusedSimpArgs false
open Go.RowKit
def rl2 (sg dl : List Nat) : Ren := ⟨fun r => rl.getN' sg r, fun r => rl.getN' dl r⟩
theorem usM_append {R : Ren} {H : List Ent} : ∀ (a b : List Nat), usM R H (a ++ b) = usM R H a ++ usM R H b
 | [], b => rfl
 | x :: a, b => by simp only [List.cons_append, usM, usM_append a b]
def rngE : List Ent → Nat → List Nat
 | [], _ => []
 | _ :: xs, n => n :: rngE xs (n + 1)
theorem rngE_eq : ∀ (l : List Ent) (n : Nat), rngE l n = List.range' n l.length
 | [], n => rfl
 | x :: l, n => by rw [rngE, rngE_eq l (n + 1)]; rfl
end Go.Proofs.YtmjpbmcbcppkfaaGreatDoor

/-! Functions that make several rows; nil slices as own rows without a block. Conditions: none. -/
namespace Go.Proofs.YtmjpbmcbcppkfaaGreatDoor
set_option linter.unusedVariables false
set_option linter.unusedSimpArgs false
open Go.RowKit
section
variable {P : Program}
def leTn (r v' : Nat) : List AV → List AV → Prop
 | [], [] => True
 | x :: xs, y :: ys => (y = .any ∨ x = y ∨ (∃ sz, x = .val (.slice none 0 0) ∧ y = .own r v' sz 0 0)) ∧ leTn r v' xs ys
 | _, _ => False
theorem leTn_get {r v' : Nat} : ∀ {xs ys : List AV}, leTn r v' xs ys → xs.length = ys.length ∧ ∀ (i : Nat) y, ys[i]? = some y → y = .any ∨ ∃ x, xs[i]? = some x ∧ (x = y ∨ (∃ sz, x = .val (.slice none 0 0) ∧ y = .own r v' sz 0 0))
 | [], [], _ => ⟨rfl, by simp⟩
 | [], _ :: _, h => h.elim
 | _ :: _, [], h => h.elim
 | x :: xs, y :: ys, h => by
  obtain ⟨h1, h2⟩ := leTn_get h.2
  refine ⟨by simp [h1], fun i z hz => ?_⟩
  cases i with
  | zero =>
   simp at hz; subst hz
   rcases h.1 with h | h | h
   ·exact .inl h
   ·exact .inr ⟨x, rfl, .inl h⟩
   ·exact .inr ⟨x, rfl, .inr h⟩
  | succ i => simpa using h2 i z (by simpa using hz)
theorem leS_nil {s : St} {t' : List AV} (r v' : Nat) (bd' : Bd) {e : Ent} (hr : getL s.H r = some e) (hv : e.ver < v') (hc : bd'.count = 0) (ht : leTn r v' s.t t') : leS s ⟨t', setL s.H r ⟨v', bd'⟩⟩ := by
 intro w0 keep E a w hR
 rw [getL_eq] at hr
 obtain ⟨h1, h2⟩ := leTn_get ht
 have hrl := (List.getElem?_eq_some_iff.1 hr).1
 have hver := hR.hr.ver r e hr
 obtain ⟨E', hE'⟩ : ∃ E' : Env, E' = { E with ver := fun k => if k = r then v' else E.ver k, abs := fun k => if k = r then True else E.abs k } := ⟨_, rfl⟩
 have ev : E'.ver r = v' := by subst hE'; simp
 have evn : ∀ k, k ≠ r → E'.ver k = E.ver k := by intro k hk; subst hE'; simp [hk]
 have ea : E'.abs r := by subst hE'; simp
 have ean : ∀ k, k ≠ r → (E'.abs k ↔ E.abs k) := by intro k hk; subst hE'; simp [hk]
 have er : ∀ k, E'.ρ k = E.ρ k := by intro k; subst hE'; rfl
 have ez : ∀ z b, E'.zone z b ↔ E.zone z b := by intro z b; subst hE'; exact Iff.rfl
 have X : Ext E E' w w := by
  refine ⟨fun k => ?_, fun k _ => er k, fun k hk => ?_, fun z b h => (ez z b).2 h, fun _ _ _ => rfl, fun k cur T fz h => ⟨cur, T, fz, h, Nat.le_refl _⟩, fun _ _ _ _ h => by subst hE'; exact h⟩
  ·by_cases q : k = r
   ·subst q; omega
   ·rw [evn k q]; exact Nat.le_refl _
  ·by_cases q : k = r
   ·subst q; omega
   ·exact ean k q
 have hget : ∀ (k : Nat) (e' : Ent), (setL s.H r ⟨v', bd'⟩)[k]? = some e' → k = r ∧ e' = ⟨v', bd'⟩ ∨ k ≠ r ∧ s.H[k]? = some e' := by
  intro k e' h
  rw [setL_eq, List.getElem?_set] at h
  by_cases q : r = k
  ·subst q
   rw [if_pos rfl, if_pos hrl] at h
   exact .inl ⟨rfl, (Option.some.inj h).symm⟩
  ·rw [if_neg q] at h
   exact .inr ⟨fun h => q h.symm, h⟩
 have hliv : ∀ (k : Nat) (e' : Ent), (setL s.H r ⟨v', bd'⟩)[k]? = some e' → Liv E' k e' → k ≠ r ∧ s.H[k]? = some e' ∧ Liv E k e' := by
  intro k e' h hl
  rcases hget k e' h with ⟨rfl, rfl⟩ | ⟨q1, q2⟩
  ·exact absurd ea hl.2
  ·exact ⟨q1, q2, hl.1, fun q => hl.2 ((ean k q1).2 q)⟩
 have hblk : ∀ (k : Nat) (e' : Ent) (b : Nat), (setL s.H r ⟨v', bd'⟩)[k]? = some e' → Blk E' k e' b → k ≠ r ∧ s.H[k]? = some e' ∧ Blk E k e' b := by
  intro k e' b h hb
  rcases hb with ⟨hl, h3⟩ | ⟨h3, h4⟩
  ·obtain ⟨q1, q2, q3⟩ := hliv k e' h hl
   exact ⟨q1, q2, .inl ⟨q3, by rwa [er] at h3⟩⟩
  ·rcases hget k e' h with ⟨rfl, rfl⟩ | ⟨q1, q2⟩
   ·exfalso; cases bd' <;> first | (simp [Bd.count] at hc; done) | (simp [Bd.isP] at h3; done)
   ·exact ⟨q1, q2, .inr ⟨h3, by subst hE'; exact h4⟩⟩
 refine ⟨E', ⟨by rw [← h1]; exact hR.len, fun i y hy => ?_, ⟨hR.defers.1, hR.defers.2.ext X⟩, ⟨?_, ?_, ?_, ?_, ?_, ?_, ?_, hR.hr.gl.ext X, ?_⟩, ⟨hR.fr.os, hR.fr.tape, hR.fr.output, hR.fr.size, hR.fr.block, hR.fr.grow, ?_⟩, hR.ext.trans X, fun z b h => hR.zone z b ((ez z b).1 h), ?_⟩⟩
 ·rcases h2 i y hy with rfl | ⟨x, hx, rfl | ⟨sz, rfl, rfl⟩⟩
  ·simp only [rep]
  ·exact rep_ext X _ _ (hR.tmps i _ hx)
  ·have := rep_val (hR.tmps i _ hx)
   rw [this, rep]
   exact ⟨by omega, fun _ => ⟨none, 0, rfl, Nat.le_refl _, Nat.zero_le _, fun _ => rfl, .inl rfl⟩⟩
 ·intro k e' h
  rcases hget k e' h with ⟨rfl, rfl⟩ | ⟨q1, q2⟩
  ·exact ev
  ·rw [evn k q1]; exact hR.hr.ver k e' q2
 ·intro k e' h hl
  obtain ⟨q1, q2, q3⟩ := hliv k e' h hl
  rw [er]; exact (hR.hr.ent k e' q2 q3).ext X rfl
 ·intro k e' h ha
  rcases hget k e' h with ⟨rfl, rfl⟩ | ⟨q1, q2⟩
  ·exact hc
  ·exact hR.hr.abs k e' q2 ((ean k q1).1 ha)
 ·intro k k' e1 e2 b h h' hl hl'
  obtain ⟨q1, q2, q3⟩ := hblk k e1 b h hl
  obtain ⟨q4, q5, q6⟩ := hblk k' e2 b h' hl'
  exact hR.hr.inj k k' e1 e2 b q2 q5 q3 q6
 ·exact fun z b h => hR.hr.zlt z b ((ez z b).1 h)
 ·intro k e' b h hl z hz
  obtain ⟨q1, q2, q3⟩ := hblk k e' b h hl
  exact hR.hr.zrow k e' b q2 q3 z ((ez z _).1 hz)
 ·intro k hk
  rw [setL_eq, List.length_set] at hk
  have hne : k ≠ r := by omega
  rw [evn k hne, ean k hne]
  exact hR.hr.top k hk
 ·intro k v ls h
  rcases hget k _ h with ⟨rfl, h1⟩ | ⟨q1, q2⟩
  ·cases h1; simp [Bd.count] at hc
  ·have := hR.hr.pool k v ls q2
   subst hE'; exact this
 ·intro k e' b h hl hlt
  obtain ⟨q1, q2, q3⟩ := hblk k e' b h hl
  exact hR.fr.rows k e' b q2 q3 hlt
 ·intro k e' b h hl
  obtain ⟨q1, q2, q3⟩ := hblk k e' b h hl
  exact hR.rows k e' b q2 q3
theorem leS_refl (s : St) : leS s s := fun _ _ E _ _ h => ⟨E, h⟩
theorem leS_weak {s : St} {H' : List Ent} (hlen : H'.length = s.H.length) (hw : ∀ (k : Nat) (e : Ent), H'[k]? = some e → ∃ e0 : Ent, s.H[k]? = some e0 ∧ WeakE e0 e) : leS s ⟨s.t, H'⟩ := by
 intro w0 keep E a w hR
 have liv : ∀ (k : Nat) (e : Ent), H'[k]? = some e → Liv E k e → ∃ e0 : Ent, s.H[k]? = some e0 ∧ WeakE e0 e ∧ Liv E k e0 := fun k e h hl => by
  obtain ⟨e0, h1, h2⟩ := hw k e h
  exact ⟨e0, h1, h2, h2.2.1 hl.1, hl.2⟩
 refine ⟨E, ⟨hR.len, hR.tmps, hR.defers, ⟨fun k e h => ?_, fun k e h hl => ?_, fun k e h ha => ?_, fun k k' e e' b h h' hl hl' => ?_, hR.hr.zlt, fun k e b h hl => ?_, fun k hk => hR.hr.top k (by rw [hlen] at hk; exact hk), hR.hr.gl, fun k v ls h => ?_⟩, ⟨hR.fr.os, hR.fr.tape, hR.fr.output, hR.fr.size, hR.fr.block, hR.fr.grow, fun k e b h hl => ?_⟩, hR.ext, hR.zone, fun k e b h hl => ?_⟩⟩
 ·obtain ⟨e0, h1, h2⟩ := hw k e h
  rw [hR.hr.ver k e0 h1, h2.1]
 ·obtain ⟨e0, h1, h2, h3⟩ := liv k e h hl
  exact h2.2.2.2.1 hl.1 E w _ (hR.hr.ent k e0 h1 h3)
 ·obtain ⟨e0, h1, h2⟩ := hw k e h
  exact h2.2.2.1 (hR.hr.abs k e0 h1 ha)
 ·obtain ⟨e0, h1, h3⟩ := hw k e h
  obtain ⟨e1, g1, g3⟩ := hw k' e' h'
  exact hR.hr.inj k k' e0 e1 b h1 g1 (h3.blk hl) (g3.blk hl')
 ·obtain ⟨e0, h1, h3⟩ := hw k e h
  exact hR.hr.zrow k e0 b h1 (h3.blk hl)
 ·obtain ⟨e0, h1, h3⟩ := hw k _ h
  exact hR.hr.pool k e0.ver ls (by rw [h1, ← h3.2.2.2.2 ls rfl])
 ·obtain ⟨e0, h1, h3⟩ := hw k e h
  exact hR.fr.rows k e0 b h1 (h3.blk hl)
 ·obtain ⟨e0, h1, h3⟩ := hw k e h
  exact hR.rows k e0 b h1 (h3.blk hl)
theorem leS_row {s : St} (r : Nat) {e0 : Ent} (e : Ent) (hr : getL s.H r = some e0) (hw : WeakE e0 e) : leS s ⟨s.t, setL s.H r e⟩ := by
 rw [getL_eq] at hr
 refine leS_weak (by rw [setL_eq, List.length_set]) fun k x hx => ?_
 rw [setL_eq, List.getElem?_set] at hx
 by_cases q : r = k
 ·subst q
  rw [if_pos rfl, if_pos (List.getElem?_eq_some_iff.1 hr).1] at hx
  obtain rfl := Option.some.inj hx
  exact ⟨e0, hr, hw⟩
 ·rw [if_neg q] at hx
  exact ⟨x, hx, WeakE.refl x⟩
theorem leS_trans {a b c : St} (h : leS a b) (k : leS b c) : leS a c := fun w0 keep E a w hR => by
 obtain ⟨E1, h1⟩ := h w0 keep E a w hR
 exact k w0 keep E1 a w h1
def retW (tb : TypeId → Option TI) (rs : List ResultVar) (post : AV → List Ent → Prop) (e : Ex) (s : St) : Prop := ∃ s', leS s s' ∧ retK tb rs post e s'
theorem spec_entryW {tb : TypeId → Option TI} (htb : TbOk P tb) {f : FuncId} {fn : Func} {c : Code} {n : Nat} {rs : List ResultVar} (hf : P.funcs[f]? = some fn) (hb : fn.body = some c) (hn : fn.ntmps = n) (hrs : fn.results = rs.toArray)
    {args : List AV} {H0 : List Ent} {post : AV → List Ent → Prop} (h : codeW tb P H0.length c (retW tb rs fun x H => H0.length ≤ H.length ∧ post x H) ⟨args ++ undefs (n - args.length), H0 ++ deads n⟩) (hnr : noRange c = true := by kernel_rfl) : Spec P f args H0 post := by
 intro w E cargs hr hargs
 refine calls_of_wp hf hb (wp_mono (codeW_sound (keep := bsOf E H0 True) htb h (fun _ => hnr) (entry_rel hn hr hargs n True)) ?_)
 rintro e a w' ⟨ex, s0, E0, rfl, hR0, s, hle, hQ⟩
 obtain ⟨E', hR⟩ := hle _ _ _ _ _ hR0
 obtain ⟨hex, v, x, h1, h2, h3⟩ := ret_sound htb hrs hQ hR
 have hx : Ext E E' w w' := hR.ext
 rcases hex with rfl | rfl
 ·exact ⟨hR.defers.1 trivial, v, h1, v, x, s.H, E', rfl, h3.2, h2, hR.hr, hx, hR.zone, h3.1, hR.rows, hR.fr⟩
 ·exact ⟨hR.defers.1 trivial, v, h1, v, x, s.H, E', rfl, h3.2, h2, hR.hr, hx, hR.zone, h3.1, hR.rows, hR.fr⟩
/-! several rows -/
def allM (H : List Ent) : List (Nat × Ent) → Prop
 | [] => True
 | (q, e) :: ms => getL H q = some e ∧ allM H ms
def pms (X : AV) (rows : List Ent) (mk : List (Nat × Ent)) : AV → List Ent → Prop := fun x H => ∃ tl, x = X ∧ H = rows ++ tl ∧ allM H mk
def inB (p : Nat) (ids : List Nat) (r : Nat) : Bool := Nat.blt r p || ids.contains r
def idsM : List (Nat × Ent) → List Nat
 | [] => []
 | (q, _) :: ms => q :: idsM ms
def hadM (hg : Nat → Option Ent) (sg dl : List Nat) : List (Nat × Ent) → Prop
 | [] => True
 | (q, _) :: ms => (∃ e, hg (rl.getN' sg q) = some e ∧ e.ver < rl.getN' dl q) ∧ hadM hg sg dl ms
def onM (D : Nat → Prop) : List (Nat × Ent) → Prop
 | [] => True
 | (_, e) :: ms => onB D e.bd ∧ onM D ms
def usK (sg dl : List Nat) : List (Nat × Ent) → List (Nat × Ent)
 | [] => []
 | (q, e) :: ms => (rl.getN' sg q, ⟨e.ver + rl.getN' dl q, renB (rl2 sg dl) e.bd⟩) :: usK sg dl ms
theorem allM_get {H : List Ent} : ∀ {ms : List (Nat × Ent)}, allM H ms → ∀ q, q ∈ idsM ms → ∃ e, (q, e) ∈ ms ∧ getL H q = some e
 | (q', e) :: ms, h, q, hq => by
  simp only [idsM, List.mem_cons] at hq
  rcases hq with rfl | hq
  ·exact ⟨e, by simp, h.1⟩
  ·obtain ⟨e', h1, h2⟩ := allM_get h.2 q hq
   exact ⟨e', by simp [h1], h2⟩
theorem hadM_get {hg : Nat → Option Ent} {sg dl : List Nat} : ∀ {ms : List (Nat × Ent)}, hadM hg sg dl ms → ∀ q, q ∈ idsM ms → ∃ e, hg (rl.getN' sg q) = some e ∧ e.ver < rl.getN' dl q
 | (q', e) :: ms, h, q, hq => by
  simp only [idsM, List.mem_cons] at hq
  rcases hq with rfl | hq
  ·exact h.1
  ·exact hadM_get h.2 q hq
theorem onM_get {D : Nat → Prop} : ∀ {ms : List (Nat × Ent)}, onM D ms → ∀ q e, (q, e) ∈ ms → onB D e.bd
 | (q', e') :: ms, h, q, e, hq => by
  simp only [List.mem_cons, Prod.mk.injEq] at hq
  rcases hq with ⟨rfl, rfl⟩ | hq
  ·exact h.1
  ·exact onM_get h.2 q e hq
theorem usM_mk {sg dl : List Nat} {H : List Ent} : ∀ {ms : List (Nat × Ent)}, allM H ms → usM (rl2 sg dl) H (idsM ms) = usK sg dl ms
 | [], _ => rfl
 | (q, e) :: ms, h => by
  have : entOf H q = e := by unfold entOf; rw [h.1]
  simp only [idsM, usM, usK, this, usM_mk h.2]
  rfl
theorem call_mksW {f : FuncId} {args0 : List AV} {H0 : List Ent} {X : AV} {rows : List Ent} {mk : List (Nat × Ent)} (S : Spec P f args0 H0 (pms X rows mk)) (hent : ∀ (as' : Array Value) (w : World), (callFunc f as').run P w = .ok (.enter f as') w)
    (p : Nat) (sg dl ids : List Nat) (hids : idsM mk = ids) (hl : H0.length = p) (hlr : rows.length = p) (hnd : (List.range p ++ ids).Nodup) (hz : ∀ r, r < p → rl.getN' dl r = 0)
    (hinj : ((List.range p ++ ids).map (rl.getN' sg)).Nodup) {args caps : List AV} {hg : Nat → Option Ent} (hargs : args ++ caps = renAs (rl2 sg dl) args0)
    (hon : onAs (· < p) args0) (hrows : allR (fun r e => onB (· < p) e.bd ∧ ∃ e', hg (rl.getN' sg r) = some e' ∧ WeakE e' ⟨e.ver, renB (rl2 sg dl) e.bd⟩) H0 0) (had : hadM hg sg dl mk)
    (hX : onA (fun r => inB p ids r = true) X) (hr2 : allR (fun _ e => onB (fun r => inB p ids r = true) e.bd) rows 0) (he : onM (fun r => inB p ids r = true) mk) {K : AV → List (Nat × Ent) → Prop}
    (hK : K (renA (rl2 sg dl) X) (usM (rl2 sg dl) rows (rngE rows 0) ++ usK sg dl mk)) :
    callK P (.clo f caps) args hg K := by
 subst hids
 have hm : ∀ r, r ∈ List.range p ++ idsM mk ↔ inB p (idsM mk) r = true := fun r => by
  simp only [List.mem_append, List.mem_range, inB, Bool.or_eq_true, List.contains_iff_mem]
  rw [show (Nat.blt r p = true) = (r < p) from by simp [Nat.blt]; rfl]
 have e1 : (fun r => r ∈ List.range p ++ idsM mk) = (fun r => inB p (idsM mk) r = true) := by funext r; exact propext (hm r)
 have hin : ∀ r, r ∈ List.range p ++ idsM mk → r < p ∨ r ∈ idsM mk := fun r h => by simpa using h
 refine callK_of (call_sem S hent (rl2 sg dl) (List.range p ++ idsM mk) hnd ?_ ?_ hargs ?_ ?_ ?_ ?_) ?_
 ·intro r h; exact ⟨by simp; omega, hz r (by omega)⟩
 ·intro a b ha hb h
  obtain ⟨i, hi, rfl⟩ := List.getElem_of_mem ha
  obtain ⟨j, hj, rfl⟩ := List.getElem_of_mem hb
  have hp := List.pairwise_iff_getElem.1 hinj
  rcases Nat.lt_trichotomy i j with q | q | q
  ·have := hp i j (by simpa using hi) (by simpa using hj) q
   rw [List.getElem_map, List.getElem_map] at this
   exact absurd h this
  ·subst q; rfl
  ·have := hp j i (by simpa using hj) (by simpa using hi) q
   rw [List.getElem_map, List.getElem_map] at this
   exact absurd h.symm this
 ·rw [hl]; exact hon
 ·intro r e h
  have := allR_get hrows h
  rw [Nat.zero_add] at this
  rw [hl]; exact this
 ·intro r h1 h2
  rcases hin r h1 with h | h
  ·omega
  ·exact hadM_get had r h
 ·rintro x H1 ⟨tl, rfl, rfl, hqe⟩
  rw [e1]
  refine ⟨hX, fun r hr => ?_⟩
  rcases hin r hr with h | h
  ·have hr' : r < rows.length := by omega
   refine ⟨by simp; omega, ?_⟩
   have : entOf (rows ++ tl) r = rows[r] := by
    unfold entOf
    rw [getL_eq, List.getElem?_append_left hr', List.getElem?_eq_getElem hr']
   rw [this]
   exact allR_get hr2 (List.getElem?_eq_getElem hr')
  ·obtain ⟨e, h1, h2⟩ := allM_get hqe r h
   refine ⟨?_, ?_⟩
   ·rw [getL_eq] at h2; exact (List.getElem?_eq_some_iff.1 h2).1
   ·have : entOf (rows ++ tl) r = e := by unfold entOf; rw [h2]
    rw [this]; exact onM_get he r e h1
 ·rintro v us ⟨x0, H1, ⟨tl, rfl, rfl, hqe⟩, rfl, rfl⟩
  rw [usM_append, usM_app (fun r hr => by rw [List.mem_range] at hr; omega), usM_mk hqe]
  rw [rngE_eq, hlr, ← List.range_eq_range'] at hK
  exact hK
theorem call_mks {f : FuncId} {args0 : List AV} {H0 : List Ent} {X : AV} {rows : List Ent} {mk : List (Nat × Ent)} (S : Spec P f args0 H0 (pms X rows mk)) (hent : ∀ (as' : Array Value) (w : World), (callFunc f as').run P w = .ok (.enter f as') w)
    (p : Nat) (sg dl ids : List Nat) (hids : idsM mk = ids) (hl : H0.length = p) (hlr : rows.length = p) (hnd : (List.range p ++ ids).Nodup) (hz : ∀ r, r < p → rl.getN' dl r = 0)
    (hinj : ((List.range p ++ ids).map (rl.getN' sg)).Nodup) {args caps : List AV} {hg : Nat → Option Ent} (hargs : args ++ caps = renAs (rl2 sg dl) args0)
    (hon : onAs (· < p) args0) (hrows : allR (fun r e => onB (· < p) e.bd ∧ hg (rl.getN' sg r) = some ⟨e.ver, renB (rl2 sg dl) e.bd⟩) H0 0) (had : hadM hg sg dl mk)
    (hX : onA (fun r => inB p ids r = true) X) (hr2 : allR (fun _ e => onB (fun r => inB p ids r = true) e.bd) rows 0) (he : onM (fun r => inB p ids r = true) mk) {K : AV → List (Nat × Ent) → Prop}
    (hK : K (renA (rl2 sg dl) X) (usM (rl2 sg dl) rows (rngE rows 0) ++ usK sg dl mk)) :
    callK P (.clo f caps) args hg K :=
 call_mksW S hent p sg dl ids hids hl hlr hnd hz hinj hargs hon (allR_mono (fun r e h => ⟨h.1, _, h.2, WeakE.refl _⟩) hrows) had hX hr2 he hK
end
end Go.Proofs.YtmjpbmcbcppkfaaGreatDoor

/-! A function that is known for plain values may be asked with what the caller owns. Conditions: none. -/
namespace Go.Proofs.YtmjpbmcbcppkfaaGreatDoor
set_option linter.unusedVariables false
set_option linter.unusedSimpArgs false
open Go.RowKit
mutual
def zfA : AV → Prop
 | .any => True
 | .val v => True
 | .agg l => zfAs l
 | .tup l => zfAs l
 | .bs z l => False
 | .sl z sz f d l => False
 | .own r ver sz off n => True
 | .ref r ver sz i j => True
 | .cp z cells j => False
 | .clo f caps => zfAs caps
 | .yld r ver => True
 | .mth f l => zfAs l
 | .ifc t x => zfA x
 | .mp r ver => True
 | .pl r ver i off n => True
 | .plr r ver i k => True
 | .gd φ x => zfA x
def zfAs : List AV → Prop
 | [] => True
 | x :: xs => zfA x ∧ zfAs xs
end
def zfB : Bd → Prop
 | .dead => True
 | .bytes l => True
 | .row sz f d l => ∀ a, zfAs (f a)
 | .obj l => zfAs l
 | .lp .. => False
 | .pool _ => True
structure Co2 (R : Ren) (E Ec : Env) : Prop where
 ver : ∀ r, Ec.ver (R.σ r) = E.ver r + R.δ r
 rho : ∀ r, Ec.ρ (R.σ r) = E.ρ r
 abs : ∀ r, (Ec.abs (R.σ r) ↔ E.abs r)
 pl : ∀ r, Ec.pl (R.σ r) = E.pl r
theorem Co2.blk {R : Ren} {E Ec : Env} (C : Co2 R E Ec) (r : Nat) (e : Ent) (v b : Nat) : Blk E r e b ↔ Blk Ec (R.σ r) ⟨v, renB R e.bd⟩ b := by
 unfold Blk Liv
 simp only [(renB_sz (R := R) (b := e.bd)).2.2, renB_isP, C.rho r, C.abs r, C.pl r]
mutual
theorem rep_co2 {R : Ren} {E Ec : Env} {w : World} (C : Co2 R E Ec) : ∀ (x : AV) (v : Value), zfA x → rep E w x v → rep Ec w (renA R x) v
 | .any, v, _, h => by simp only [renA, rep]
 | .val u, v, _, h => by simp only [renA, rep] at h ⊢; exact h
 | .agg l, v, hz, h => by
  simp only [renA, rep] at h ⊢
  obtain ⟨cs, rfl, h⟩ := h
  exact ⟨cs, rfl, reps_co2 C l cs hz h⟩
 | .tup l, v, hz, h => by
  simp only [renA, rep] at h ⊢
  obtain ⟨cs, rfl, h⟩ := h
  exact ⟨cs, rfl, reps_co2 C l cs hz h⟩
 | .bs z l, v, hz, _ => hz.elim
 | .sl z sz f d l, v, hz, _ => hz.elim
 | .own r ver sz off n, v, hz, h => by
  simp only [renA, rep, C.ver, C.rho, C.abs] at h ⊢
  exact ⟨by omega, fun e => h.2 (by omega)⟩
 | .ref r ver sz i j, v, hz, h => by
  simp only [renA, rep, C.ver, C.rho] at h ⊢
  exact ⟨by omega, fun e => h.2 (by omega)⟩
 | .cp z cells j, v, hz, _ => hz.elim
 | .clo f caps, v, hz, h => by
  simp only [renA, rep] at h ⊢
  obtain ⟨cs, rfl, h⟩ := h
  exact ⟨cs, rfl, reps_co2 C caps cs hz h⟩
 | .yld r ver, v, hz, h => by
  simp only [renA, rep, C.ver, C.rho] at h ⊢
  exact ⟨by omega, fun e => h.2 (by omega)⟩
 | .mth f l, v, hz, h => by
  simp only [renA, rep] at h ⊢
  obtain ⟨cs, rfl, h⟩ := h
  exact ⟨cs, rfl, reps_co2 C l cs hz h⟩
 | .ifc t x, v, hz, h => by
  simp only [renA, rep] at h ⊢
  obtain ⟨u, rfl, h⟩ := h
  exact ⟨u, rfl, rep_co2 C x u hz h⟩
 | .mp r ver, v, hz, h => by
  simp only [renA, rep, C.ver, C.rho] at h ⊢
  exact ⟨by omega, fun e => h.2 (by omega)⟩
 | .pl r ver i off n, v, hz, h => by
  simp only [renA, rep, C.ver, C.pl] at h ⊢
  exact ⟨by omega, fun e => h.2 (by omega)⟩
 | .plr r ver i k, v, hz, h => by
  simp only [renA, rep, C.ver, C.pl] at h ⊢
  exact ⟨by omega, fun e => h.2 (by omega)⟩
 | .gd φ x, v, hz, h => by
  simp only [renA, rep] at h ⊢
  exact ⟨fun p => rep_co2 C x v hz (h.1 p), h.2⟩
theorem reps_co2 {R : Ren} {E Ec : Env} {w : World} (C : Co2 R E Ec) : ∀ (xs : List AV) (vs : List Value), zfAs xs → reps E w xs vs → reps Ec w (renAs R xs) vs
 | [], vs, _, h => by simp only [renAs, reps] at h ⊢; exact h
 | x :: xs, vs, hz, h => by
  simp only [renAs, reps] at h ⊢
  obtain ⟨v, vs', rfl, h1, h2⟩ := h
  exact ⟨v, vs', rfl, rep_co2 C x v hz.1 h1, reps_co2 C xs vs' hz.2 h2⟩
end
theorem zfB_at {bd : Bd} (h : zfB bd) {i : Nat} {ys : List AV} (hy : bd.at i = some ys) : zfAs ys := by
 cases bd with
 | dead => simp [Bd.at] at hy
 | bytes l =>
  simp only [Bd.at, Option.map_eq_some_iff] at hy
  obtain ⟨b, _, rfl⟩ := hy
  simp [zfAs, zfA]
 | row sz f d l =>
  simp only [Bd.at, Option.map_eq_some_iff] at hy
  obtain ⟨b, _, rfl⟩ := hy
  exact h b
 | obj l =>
  simp only [Bd.at] at hy
  split at hy
  ·cases hy; exact h
  ·cases hy
 | lp => simp [Bd.at] at hy
 | pool => simp [Bd.at] at hy
theorem EntRep.co2 {R : Ren} {E Ec : Env} {w : World} (C : Co2 R E Ec) {b : Nat} {bd : Bd} (hz : zfB bd) (h : EntRep E w b bd) : EntRep Ec w b (renB R bd) := by
 obtain ⟨e1, e2, e3⟩ := renB_sz (R := R) (b := bd)
 refine ⟨fun hl => ?_, fun i tR st e => by cases bd <;> first | exact (show False from hz).elim | cases e⟩
 obtain ⟨cur, T, lo, hi, h1, h2, h3, h4⟩ := h.blk (by rwa [renB_cel] at hl)
 refine ⟨cur, T, lo, hi, h1, h2, by rw [e1, e2]; exact h3, fun i ys hy => ?_⟩
 rw [renB_at] at hy
 obtain ⟨ys', hy', rfl⟩ := Option.map_eq_some_iff.1 hy
 obtain ⟨cs, h5, h6, h7⟩ := h4 i ys' hy'
 rw [e1]
 exact ⟨cs, h5, reps_co2 C _ _ (zfB_at hz hy') h6, h7⟩
def shR (n : Nat) : Ren := ⟨fun r => r + n, fun _ => 0⟩
def shM (n : Nat) : List (Nat × Ent) → List (Nat × Ent)
 | [] => []
 | (q, e) :: ms => (q + n, ⟨e.ver, renB (shR n) e.bd⟩) :: shM n ms
def zfM : List (Nat × Ent) → Prop
 | [] => True
 | (_, e) :: ms => zfB e.bd ∧ zfM ms
theorem zfM_get : ∀ {ms : List (Nat × Ent)}, zfM ms → ∀ q e, (q, e) ∈ ms → zfB e.bd
 | (q', e') :: ms, h, q, e, hq => by
  simp only [List.mem_cons, Prod.mk.injEq] at hq
  rcases hq with ⟨rfl, rfl⟩ | hq
  ·exact h.1
  ·exact zfM_get h.2 q e hq
def tellE (n : Nat) (ids : List Nat) (q : Nat) (e : Ent) : Ent := if q ∈ ids then ⟨e.ver, renB (shR n) e.bd⟩ else ⟨e.ver, .dead⟩
section
variable {P : Program}
theorem spec_ro {f : FuncId} {args0 : List AV} {X : AV} {mk : List (Nat × Ent)} (S : Spec P f args0 [] (pms X [] mk)) (hX : zfA X) (hmk : zfM mk) {args : List AV} {rows : List Ent}
    (hargs : ∀ (E E0 : Env) (w : World) (vs : List Value), HR E w rows → (∀ z b, E0.zone z b ↔ z = 0 ∧ b < w.heap.size) → reps E w args vs → reps E0 w args0 vs) :
    Spec P f args rows (pms (renA (shR rows.length) X) rows (shM rows.length mk)) := by
 intro w E cargs hr hcargs
 obtain ⟨n, hn⟩ : ∃ n, n = rows.length := ⟨_, rfl⟩
 rw [← hn]
 obtain ⟨E0, hE0⟩ : ∃ E0 : Env, E0 = { ρ := fun r => E.ρ (r + n), ver := fun _ => 0, zone := fun z b => z = 0 ∧ b < w.heap.size, abs := fun _ => False, pl := fun r => E.pl (r + n) } := ⟨_, rfl⟩
 have hz0 : ∀ z b, E0.zone z b ↔ z = 0 ∧ b < w.heap.size := by subst hE0; exact fun _ _ => Iff.rfl
 have hr0 : HR E0 w [] := by
  refine ⟨by simp, by simp, by simp, by simp, fun z b h => ((hz0 z b).1 h).2, by simp, fun r _ => ?_, fun g cs hg => ⟨(hz0 0 g).2 ⟨rfl, hr.zlt 0 g (hr.gl g cs hg).1⟩, (hr.gl g cs hg).2⟩, by simp⟩
  subst hE0; exact ⟨rfl, fun h => h⟩
 refine Calls.mono (S w E0 cargs hr0 (hargs E E0 w cargs hr hz0 hcargs)) fun e w' ⟨v, x, H1, E1, he, hpo, hv, hr1, X1, hz1, hlen1, hrows1, hfr⟩ => ?_
 obtain ⟨tl, hx1, hH1, hal⟩ := hpo
 rw [List.nil_append] at hH1
 have hall : ∀ k, k < w.heap.size → w'.heap[k]? = w.heap[k]? := fun k hk => X1.cell 0 k ((hz0 0 k).2 ⟨rfl, hk⟩)
 have hsize := hfr.size
 have hnew : ∀ (r : Nat) (e : Ent) (b : Nat), H1[r]? = some e → Blk E1 r e b → w.heap.size ≤ b := by
  intro r e b h1 h2
  rcases hrows1 r e b h1 h2 with h | ⟨r0, e0, h, _⟩
  ·exact h
  ·simp at h
 have htop := hr.top
 obtain ⟨E', hE'⟩ : ∃ E' : Env, E' = { ρ := fun k => if k < n then E.ρ k else E1.ρ (k - n), ver := fun k => if k < n then E.ver k else E1.ver (k - n), zone := E.zone, abs := fun k => if k < n then E.abs k else E1.abs (k - n), pl := fun k => if k < n then E.pl k else E1.pl (k - n) } := ⟨_, rfl⟩
 have lo : ∀ k, k < n → E'.ρ k = E.ρ k ∧ E'.ver k = E.ver k ∧ (E'.abs k ↔ E.abs k) := by intro k hk; subst hE'; simp [hk]
 have hi : ∀ k, E'.ρ (k + n) = E1.ρ k ∧ E'.ver (k + n) = E1.ver k ∧ (E'.abs (k + n) ↔ E1.abs k) := by
  intro k; subst hE'
  have : ¬ k + n < n := by omega
  simp [this]
 have loP : ∀ k, k < n → E'.pl k = E.pl k := by intro k hk; subst hE'; simp [hk]
 have hiP : ∀ k, E'.pl (k + n) = E1.pl k := by
  intro k; subst hE'
  have : ¬ k + n < n := by omega
  simp [this]
 have hi' : ∀ k, ¬ k < n → ∃ q, k = q + n := fun k hk => ⟨k - n, by omega⟩
 have ez : ∀ z b, E'.zone z b ↔ E.zone z b := by intro z b; subst hE'; exact Iff.rfl
 have C : Co2 (shR n) E1 E' := ⟨fun r => (hi r).2.1, fun r => (hi r).1, fun r => (hi r).2.2, fun r => hiP r⟩
 have X : Ext E E' w w' := by
  refine ⟨fun k => ?_, fun k hk => ?_, fun k hk => ?_, fun z b h => (ez z b).2 h, fun z b h => hall b (hr.zlt z b h), fun k cur T fz h => ?_, fun k hk i b hb => ?_⟩
  ·by_cases q : k < n
   ·rw [(lo k q).2.1]; exact Nat.le_refl _
   ·rw [(htop k (by omega)).1]; exact Nat.zero_le _
  ·by_cases q : k < n
   ·exact (lo k q).1
   ·obtain ⟨m, rfl⟩ := hi' k q
    rw [(hi m).2.1, (htop (m + n) (by omega)).1] at hk
    have := X1.rho m (by rw [hk]; subst hE0; rfl)
    rw [(hi m).1, this]; subst hE0; rfl
  ·by_cases q : k < n
   ·exact (lo k q).2.2
   ·obtain ⟨m, rfl⟩ := hi' k q
    rw [(hi m).2.1, (htop (m + n) (by omega)).1] at hk
    have := X1.abs m (by rw [hk]; subst hE0; rfl)
    rw [(hi m).2.2, this]
    have h2 := (htop (m + n) (by omega)).2
    subst hE0
    exact ⟨fun h => h.elim, fun h => (h2 h).elim⟩
  ·have hlt := (Array.getElem?_eq_some_iff.1 h).1
   exact ⟨cur, T, fz, by rw [hall _ hlt]; exact h, Nat.le_refl _⟩
  ·by_cases q : k < n
   ·rw [loP k q]; exact hb
   ·obtain ⟨m, rfl⟩ := hi' k q
    rw [(hi m).2.1, (htop (m + n) (by omega)).1] at hk
    rw [hiP]
    exact X1.pl m (by rw [hk]; subst hE0; rfl) i b (by subst hE0; exact hb)
 obtain ⟨H', hH'⟩ : ∃ H' : List Ent, H' = rows ++ (H1.mapIdx fun q e => tellE n (idsM mk) q e) := ⟨_, rfl⟩
 have get : ∀ (k : Nat) (e : Ent), H'[k]? = some e → (k < n ∧ rows[k]? = some e) ∨ (∃ q e1, k = q + n ∧ H1[q]? = some e1 ∧ e = tellE n (idsM mk) q e1) := by
  intro k e h
  rw [hH', List.getElem?_append] at h
  split at h
  ·rename_i q; exact .inl ⟨by omega, h⟩
  ·rename_i q
   rw [List.getElem?_mapIdx, Option.map_eq_some_iff] at h
   obtain ⟨e1, h1, h2⟩ := h
   exact .inr ⟨k - rows.length, e1, by omega, h1, h2.symm⟩
 have told : ∀ {q : Nat} {e1 : Ent}, H1[q]? = some e1 → (tellE n (idsM mk) q e1).bd.live = true → tellE n (idsM mk) q e1 = ⟨e1.ver, renB (shR n) e1.bd⟩ ∧ zfB e1.bd ∧ e1.bd.live = true := by
  intro q e1 h1 hl
  unfold tellE at hl ⊢
  split at hl
  ·rename_i hq
   rw [if_pos hq]
   refine ⟨rfl, ?_, by rw [(renB_sz (R := shR n) (b := e1.bd)).2.2] at hl; exact hl⟩
   obtain ⟨e2, h2, h3⟩ := allM_get hal q hq
   rw [getL_eq, h1] at h3
   cases h3
   exact zfM_get hmk q _ h2
  ·cases hl
 have tver : ∀ (q : Nat) (e1 : Ent), (tellE n (idsM mk) q e1).ver = e1.ver := by intro q e1; unfold tellE; split <;> rfl
 have liv : ∀ (k : Nat) (e : Ent), H'[k]? = some e → Liv E' k e → (k < n ∧ rows[k]? = some e ∧ Liv E k e) ∨ (∃ q e1, k = q + n ∧ H1[q]? = some e1 ∧ Liv E1 q e1 ∧ e = ⟨e1.ver, renB (shR n) e1.bd⟩ ∧ zfB e1.bd) := by
  intro k e h hl
  rcases get k e h with ⟨h1, h2⟩ | ⟨q, e1, rfl, h2, rfl⟩
  ·exact .inl ⟨h1, h2, hl.1, fun a => hl.2 ((lo k h1).2.2.2 a)⟩
  ·obtain ⟨t1, t2, t3⟩ := told h2 hl.1
   exact .inr ⟨q, e1, rfl, h2, ⟨t3, fun a => hl.2 ((hi q).2.2.2 a)⟩, t1, t2⟩
 have blk : ∀ (k : Nat) (e : Ent) (b : Nat), H'[k]? = some e → Blk E' k e b → (k < n ∧ rows[k]? = some e ∧ Blk E k e b) ∨ (∃ q e1, k = q + n ∧ H1[q]? = some e1 ∧ Blk E1 q e1 b) := by
  intro k e b h hb
  rcases get k e h with ⟨h1, h2⟩ | ⟨q, e1, rfl, h2, rfl⟩
  ·refine .inl ⟨h1, h2, ?_⟩
   unfold Blk Liv at hb ⊢
   rwa [(lo k h1).1, (lo k h1).2.2, loP k h1] at hb
  ·refine .inr ⟨q, e1, rfl, h2, ?_⟩
   unfold tellE at hb
   split at hb
   ·exact (C.blk q e1 _ b).2 hb
   ·exact absurd hb Blk.dead
 have hHR : HR E' w' H' := by
  refine ⟨?_, ?_, ?_, ?_, ?_, ?_, ?_, hr.gl.ext X, ?_⟩
  ·intro k e h
   rcases get k e h with ⟨h1, h2⟩ | ⟨q, e1, rfl, h2, rfl⟩
   ·rw [(lo k h1).2.1]; exact hr.ver k e h2
   ·rw [(hi q).2.1, tver]; exact hr1.ver q e1 h2
  ·intro k e h hl
   rcases liv k e h hl with ⟨h1, h2, h3⟩ | ⟨q, e1, rfl, h2, h3, rfl, h4⟩
   ·rw [(lo k h1).1]
    exact (hr.ent k e h2 h3).ext X (hall _ (hr.lt h2 h3))
   ·rw [(hi q).1]
    exact (hr1.ent q e1 h2 h3).co2 C h4
  ·intro k e h ha
   rcases get k e h with ⟨h1, h2⟩ | ⟨q, e1, rfl, h2, rfl⟩
   ·exact hr.abs k e h2 ((lo k h1).2.2.1 ha)
   ·have := hr1.abs q e1 h2 ((hi q).2.2.1 ha)
    unfold tellE; split
    ·rw [(renB_sz (R := shR n) (b := e1.bd)).2.1]; exact this
    ·rfl
  ·intro k k' e e' b h h' hl hl'
   rcases blk k e b h hl with ⟨h1, h2, h3⟩ | ⟨q, e1, rfl, h2, h3⟩ <;> rcases blk k' e' b h' hl' with ⟨g1, g2, g3⟩ | ⟨q', e1', rfl, g2, g3⟩
   ·exact hr.inj k k' e e' b h2 g2 h3 g3
   ·have := hr.blt h2 h3; have := hnew q' e1' b g2 g3; omega
   ·have := hr.blt g2 g3; have := hnew q e1 b h2 h3; omega
   ·rw [hr1.inj q q' e1 e1' b h2 g2 h3 g3]
  ·exact fun z b h => Nat.lt_of_lt_of_le (hr.zlt z b ((ez z b).1 h)) hsize
  ·intro k e b h hl z hz
   rcases blk k e b h hl with ⟨h1, h2, h3⟩ | ⟨q, e1, rfl, h2, h3⟩
   ·exact hr.zrow k e b h2 h3 z ((ez z _).1 hz)
   ·have := hr.zlt z _ ((ez z _).1 hz); have := hnew q e1 b h2 h3; omega
  ·intro k hk
   rw [hH', List.length_append, List.length_mapIdx] at hk
   obtain ⟨q, rfl⟩ := hi' k (by omega)
   have := hr1.top q (by omega)
   rw [(hi q).2.1]
   exact ⟨this.1, fun a => this.2 ((hi q).2.2.1 a)⟩
  ·intro k v ls h
   rcases get k _ h with ⟨h1, h2⟩ | ⟨q, e1, rfl, h2, h3⟩
   ·rw [loP k h1]
    exact (hr.pool k v ls h2).cong fun i b hb => hall b (hr.blt h2 (.inr ⟨rfl, i, hb⟩))
   ·unfold tellE at h3
    split at h3
    ·rw [hiP]
     exact hr1.pool q e1.ver ls (by rw [h2, ← renB_pool (Ent.mk.inj h3).2.symm])
    ·cases h3
 refine ⟨v, renA (shR n) x, H', E', he, ⟨_, by rw [hx1], hH', ?_⟩, ?_, hHR, X, fun z b h => .inl ((ez z b).1 h), by rw [hH', List.length_append]; omega, ?_, ⟨hfr.os, hfr.tape, hfr.output, hfr.size, fun k hk _ => hall k hk, fun k cur T fz h => ⟨cur, T, fz, by rw [hall k (Array.getElem?_eq_some_iff.1 h).1]; exact h, Nat.le_refl _⟩, ?_⟩⟩
 ·have key : ∀ (ms : List (Nat × Ent)), (∀ q, q ∈ idsM ms → q ∈ idsM mk) → allM H1 ms → allM H' (shM n ms) := by
    intro ms
    induction ms with
    | nil => intro _ _; trivial
    | cons m ms ih =>
     obtain ⟨q, e⟩ := m
     intro hsub hm
     refine ⟨?_, ih (fun q' hq' => hsub q' (by simp [idsM, hq'])) hm.2⟩
     have h1 := hm.1
     rw [getL_eq] at h1
     rw [getL_eq, hH', List.getElem?_append_right (by omega), List.getElem?_mapIdx, show q + n - rows.length = q by omega, h1]
     unfold tellE
     simp [hsub q (by simp [idsM])]
  exact key mk (fun _ h => h) hal
 ·rw [hx1]
  rw [hx1] at hv
  exact rep_co2 C _ _ hX hv
 ·intro k e b h hl
  rcases blk k e b h hl with ⟨h1, h2, h3⟩ | ⟨q, e1, rfl, h2, h3⟩
  ·exact .inr ⟨k, e, h2, h3⟩
  ·exact .inl (hnew q e1 b h2 h3)
 ·intro k e b h hl hlt
  rcases blk k e b h hl with ⟨h1, h2, h3⟩ | ⟨q, e1, rfl, h2, h3⟩
  ·intro hk
   exact hk k e h2 h3
  ·have := hnew q e1 b h2 h3; omega
/-! how arguments read -/
def AsL (rows : List Ent) (args args0 : List AV) : Prop := ∀ (E E0 : Env) (w : World) (vs : List Value), HR E w rows → (∀ z b, E0.zone z b ↔ z = 0 ∧ b < w.heap.size) → reps E w args vs → reps E0 w args0 vs
def As (rows : List Ent) (x x0 : AV) : Prop := ∀ (E E0 : Env) (w : World) (v : Value), HR E w rows → (∀ z b, E0.zone z b ↔ z = 0 ∧ b < w.heap.size) → rep E w x v → rep E0 w x0 v
theorem asL_nil {rows : List Ent} : AsL rows [] [] := fun E E0 w vs _ _ h => by rw [reps] at h ⊢; exact h
theorem asL_cons {rows : List Ent} {x x0 : AV} {xs xs0 : List AV} (h : As rows x x0) (k : AsL rows xs xs0) : AsL rows (x :: xs) (x0 :: xs0) := fun E E0 w vs hr hz hv => by
 rw [reps] at hv ⊢
 obtain ⟨v, vs', rfl, h1, h2⟩ := hv
 exact ⟨v, vs', rfl, h E E0 w v hr hz h1, k E E0 w vs' hr hz h2⟩
theorem as_val {rows : List Ent} {u : Value} : As rows (.val u) (.val u) := fun E E0 w v _ _ h => by rw [rep] at h ⊢; exact h
theorem as_agg {rows : List Ent} {xs xs0 : List AV} (h : AsL rows xs xs0) : As rows (.agg xs) (.agg xs0) := fun E E0 w v hr hz hv => by
 rw [rep] at hv ⊢
 obtain ⟨cs, rfl, hv⟩ := hv
 exact ⟨cs, rfl, h E E0 w cs hr hz hv⟩
theorem rep_of_bs {E0 : Env} {w : World} {v : Value} {l : List UInt8} (h : BS w v l) (hz : ∀ z b, E0.zone z b ↔ z = 0 ∧ b < w.heap.size) (hlit : 0 < l.length → ∀ a n c, v = .slice (some a) n c → a.spot = none) : rep E0 w (.bs 0 l) v := by
 obtain ⟨a, n, c, rfl, hS⟩ := h
 rw [rep]
 refine ⟨a, n, c, rfl, hS.len1.symm, hS.le, hS.max, hS.nil, fun i x hx => ?_⟩
 have hc : ∀ ad, a = some ad → w.cell? (ad.add i) = some (bv x) := fun ad had => by
  have := hS.cell ad had i (bv x) (by simp [bvs, hx])
  exact this
 cases a with
 | none =>
  have h1 := hS.nil rfl
  have h2 := hS.le
  have h3 := hS.len1
  have := (List.getElem?_eq_some_iff.1 hx).1
  omega
 | some ad =>
  obtain ⟨b, o, p⟩ := ad
  have hp := hlit (Nat.lt_of_le_of_lt (Nat.zero_le _) (List.getElem?_eq_some_iff.1 hx).1) _ _ _ rfl
  simp only at hp
  subst hp
  have h1 := hc _ rfl
  rw [Addr.add_lit] at h1
  refine ⟨b, o, rfl, (hz 0 b).2 ⟨rfl, ?_⟩, h1⟩
  unfold World.cell? at h1
  simp only at h1
  cases hb : w.heap[b]? with
  | none => simp [hb] at h1
  | some _ => exact (Array.getElem?_eq_some_iff.1 hb).1
theorem as_nil {rows : List Ent} : As rows (.val (.slice none 0 0)) (.bs 0 []) := fun E E0 w v _ hz h => by
 rw [rep_val h]
 exact rep_of_bs (BS.nil w) hz (fun _ _ _ _ h => by cases h)
theorem as_bs {rows : List Ent} {z : Nat} {l : List UInt8} : As rows (.bs z l) (.bs 0 l) := fun E E0 w v hr hz h => by
 rw [rep] at h ⊢
 obtain ⟨a, n, c, rfl, h1, h2, h3, h4, h5⟩ := h
 refine ⟨a, n, c, rfl, h1, h2, h3, h4, fun i x hx => ?_⟩
 obtain ⟨b, o, h6, h7, h8⟩ := h5 i x hx
 exact ⟨b, o, h6, (hz 0 b).2 ⟨rfl, hr.zlt z b h7⟩, h8⟩
theorem as_own {rows : List Ent} {r ver off n : Nat} {l : List UInt8} (he : getL rows r = some ⟨ver, .bytes l⟩) (hle : off + n ≤ l.length) : As rows (.own r ver 1 off n) (.bs 0 ((l.drop off).take n)) := fun E E0 w v hr hz h => by
 rw [getL_eq] at he
 have hb := bs_of_own hr he rfl rfl hle h
 refine rep_of_bs hb hz (fun hpos a m c hv => ?_)
 rw [rep] at h
 obtain ⟨a', c', h1, h2, h3, h4, h5⟩ := h.2 (hr.ver r _ he).symm
 rw [hv] at h1
 cases h1
 rcases h5 with h5 | ⟨_, h6, _⟩
 ·simp only [List.length_take, List.length_drop] at hpos; omega
 ·cases h6; rfl
theorem as_ownobj {rows : List Ent} {r ver off n : Nat} {cells : List AV} {l : List UInt8} (he : getL rows r = some ⟨ver, .obj cells⟩) (hn : n = l.length) (hle : off + n ≤ cells.length) (hl : ∀ (i : Nat) (x : UInt8), l[i]? = some x → cells[off + i]? = some (.val (bv x))) : As rows (.own r ver 1 off n) (.bs 0 l) := fun E E0 w v hr hz h => by
 rw [getL_eq] at he
 rw [rep] at h
 rw [rep]
 obtain ⟨a, c, rfl, h2, h3, h4, h5⟩ := h.2 (hr.ver r _ he).symm
 refine ⟨a, n, c, rfl, hn, h2, h3, h4, fun i x hx => ?_⟩
 have hi := (List.getElem?_eq_some_iff.1 hx).1
 obtain ⟨hna, rfl, _⟩ := h5.resolve_left (by omega)
 have hliv : Liv E r ⟨ver, .obj cells⟩ := ⟨rfl, hna⟩
 obtain ⟨cs, c1, c2, c3⟩ := hr.cells he (i := 0) (ys := cells) rfl
 obtain ⟨u, hu, hru⟩ := (reps_get c2).2 (off + i) _ (hl i x hx)
 have hq := rep_val hru
 subst hq
 refine ⟨_, _, rfl, (hz 0 _).2 ⟨rfl, hr.lt he hliv⟩, ?_⟩
 have := c3 (off + i) _ hu
 rw [Nat.zero_mul, Nat.zero_add] at this
 rw [Nat.mul_one]
 exact this
theorem as_sl {rows : List Ent} {r ver n : Nat} {α : Type} {f : α → List AV} {d : α} {l0 : List α} (he : getL rows r = some ⟨ver, .row 1 f d l0⟩) (hn : n = l0.length) {ls : List (List UInt8)} (hl : ls.length = n)
    (hel : ∀ (i : Nat) (x : α) (l : List UInt8), l0[i]? = some x → ls[i]? = some l → ∃ a, f x = [a] ∧ As rows a (.bs 0 l)) : As rows (.own r ver 1 0 n) (.sl 0 1 (fun l => [.bs 0 l]) [] ls) := fun E E0 w v hr hz h => by
 rw [getL_eq] at he
 simp only [rep] at h ⊢
 obtain ⟨a, c, rfl, h2, h3, h4, h5⟩ := h.2 (hr.ver r _ he).symm
 refine ⟨a, n, c, rfl, hl.symm, h2, h3, h4, fun i x hx => ?_⟩
 have hi := (List.getElem?_eq_some_iff.1 hx).1
 obtain ⟨hna, rfl, _⟩ := h5.resolve_left (by omega)
 have hliv : Liv E r ⟨ver, .row 1 f d l0⟩ := ⟨rfl, hna⟩
 obtain ⟨cur, T, lo, hi', g1, g2, g3, g4⟩ := (hr.ent r _ he hliv).blk rfl
 have hi0 : i < l0.length := by omega
 obtain ⟨cs, k1, k2, k3⟩ := g4 i (f l0[i]) (by simp only [Bd.at]; rw [List.getElem?_eq_getElem hi0]; rfl)
 obtain ⟨a', ha, has⟩ := hel i _ x (List.getElem?_eq_getElem hi0) hx
 rw [ha] at k2
 simp only [reps] at k2
 obtain ⟨u, vs, rfl, k4, rfl⟩ := k2
 refine ⟨_, _, [u], rfl, (hz 0 _).2 ⟨rfl, hr.lt he hliv⟩, rfl, ?_, fun j v hv => ?_⟩
 ·simp only [reps]
  exact ⟨u, [], rfl, has E E0 w u hr hz k4, rfl⟩
 ·cases j with
  | zero =>
   simp at hv; subst hv
   have := k3 0 u rfl
   rw [Nat.zero_mul, Nat.zero_add, Nat.add_zero]
   simp only [Bd.sz, Nat.add_zero] at this
   rw [cell_of_row w _ _ cur T (lo, hi') g1]
   exact this
  | succ j => simp at hv
end
end Go.Proofs.YtmjpbmcbcppkfaaGreatDoor

/-! The model's own function that makes bytes. Conditions: its premises. -/
namespace Go.Proofs.YtmjpbmcbcppkfaaGreatDoor
set_option linter.unusedVariables false
set_option linter.unusedSimpArgs false
open Go.RowKit
theorem digits_bytes : ∀ (n t : Nat) (acc : Array Value), ∃ l : List UInt8, l.length = n ∧ Extern.BytealgMakeNoZero.digits n t acc = acc ++ (bvs l).toArray
 | 0, _, acc => ⟨[], rfl, by simp [Extern.BytealgMakeNoZero.digits, bvs]⟩
 | n + 1, t, acc => by
  rw [Extern.BytealgMakeNoZero.digits]
  obtain ⟨l, h1, h2⟩ := digits_bytes n (t / 256) (acc.push (.int .u8 (Int.ofNat (t % 256))))
  refine ⟨UInt8.ofNat (t % 256) :: l, by simp [h1], ?_⟩
  rw [h2]
  have : (.int .u8 (Int.ofNat (t % 256)) : Value) = bv (UInt8.ofNat (t % 256)) := by
   unfold bv
   congr 1
   have h3 : t % 256 < 256 := Nat.mod_lt _ (by decide)
   simp
  rw [this]
  apply Array.ext'
  simp [bvs]
section
variable {P : Program}
theorem Out.drews {E E' : Env} {w w' : World} {H : List Ent} {us : List (Nat × Ent)} (O : Out E E' w.drew.drew w' H us) : Out E E' w w' H us :=
 ⟨⟨O.ext.ver, O.ext.rho, O.ext.abs, O.ext.zone, O.ext.cell, O.ext.grow, O.ext.pl⟩, O.hr, O.os, O.tape, O.output, O.size, O.zone, O.grow, O.block, O.rows⟩
theorem size_digs (n t : Nat) : (Extern.BytealgMakeNoZero.digits n t #[]).size = n := by
 obtain ⟨l, h1, h2⟩ := digits_bytes n t #[]
 rw [h2]
 simp [bvs, h1]
theorem run_mnz (w : World) (ps : Array TypeId) (t e : TypeId) (ht : P.underlying t = some (.slice e)) (n : Nat) (hn : n ≤ 140737488355328) :
    ∃ l : List UInt8, (Extern.BytealgMakeNoZero.makeNoZero ps #[t] #[.int .i64 n]).run P w = .ok (.slice (some ⟨w.heap.size, 0, none⟩) n l.length) (w.drew.drew.alloc (.cells (bvs l).toArray e)) ∧ n ≤ l.length ∧ l.length ≤ maxLen := by
 have h0 : ∃ b : Nat, (Extern.BytealgMakeNoZero.makeNoZero ps #[t] #[.int .i64 n]).run P w = .ok (.slice (some ⟨w.heap.size, 0, none⟩) n (Extern.BytealgMakeNoZero.digits (grownCap w n 0 e) b #[]).size) (w.drew.drew.alloc (.cells (Extern.BytealgMakeNoZero.digits (grownCap w n 0 e) b #[]) e)) := by
  obtain ⟨q, hq⟩ : ∃ q : Question, q.forced = false ∧ Extern.BytealgMakeNoZero.makeNoZero ps #[t] #[.int .i64 n] = (underlying t >>= fun u => match u with
      | .slice el => (do
       if (n : Int) < 0 || (n : Int) > 2 ^ 48 then runtimePanic (.error "makeslice: len out of range")
       let c ← choose (.appendCap (n : Int).toNat 0 el)
       askRoom c
       let b ← choose q
       let a ← newRow el (Extern.BytealgMakeNoZero.digits c b #[])
       pure (.slice (some a) (n : Int).toNat c))
      | _ => stuck "bytealg.MakeNoZero: slice type expected") := ⟨_, rfl, rfl⟩
  have h3 : ¬ (n : Int) < 0 := by omega
  have h4 : ¬ (281474976710656 : Int) < (n : Int) := by omega
  rw [hq.2]
  have hq1 := hq.1
  have h5 : (Question.appendCap n 0 e).forced = false := rfl
  simp [run_underlying ht, h3, h4, h5, hq1, newRow, grownCap, size_digs]
  exact ⟨_, rfl⟩
 obtain ⟨b, h0⟩ := h0
 obtain ⟨l, h1, h2⟩ := digits_bytes (grownCap w n 0 e) b #[]
 rw [Array.empty_append] at h2
 rw [h2] at h0
 have hs : (bvs l).toArray.size = l.length := by simp [bvs]
 rw [hs] at h0
 exact ⟨l, h0, by rw [h1]; simpa using grownCap_ge w n 0 e, by rw [h1]; exact grownCap_le_maxLen w n 0 e (by unfold maxLen; omega)⟩
theorem call_mnz {f : FuncId} {fn : Func} {ps : Array TypeId} {t e : TypeId} (hf : P.funcs[f]? = some fn) (hname : (fn.name == "runtime.NumGoroutine") = false) (hb : fn.body.isNone = true) (hnx : Extern.findNext fn = none) (he : Extern.find fn = some (Extern.BytealgMakeNoZero.makeNoZero ps #[t]))
    (ht : P.underlying t = some (.slice e)) (n : Nat) (hn : n ≤ 140737488355328) {args caps : List AV} (hargs : args ++ caps = [.val (.int .i64 n)]) (r : Nat) {hg : Nat → Option Ent} {en : Ent} (hr : hg r = some en) {K : AV → List (Nat × Ent) → Prop}
    (hK : ∀ l : List UInt8, l.length = n → K (.own r (en.ver + 1) 1 0 n) [(r, ⟨en.ver + 1, .bytes l⟩)]) : callK P (.clo f caps) args hg K := by
 refine callK_of (post := fun x us => ∃ l : List UInt8, l.length = n ∧ x = .own r (en.ver + 1) 1 0 n ∧ us = [(r, ⟨en.ver + 1, .bytes l⟩)]) ?_ (fun v us ⟨l, h1, h2, h3⟩ => by subst h2; subst h3; exact hK l h1)
 rw [hargs]
 intro E H w cargs hR hh hca
 simp only [reps, rep] at hca
 obtain ⟨v, vs, rfl, rfl, rfl⟩ := hca
 obtain ⟨l, h1, h2, h3⟩ := run_mnz (P := P) w ps t e ht n hn
 have O := (Out.new (T := e) (cs := bvs l) (bd' := .bytes (l.take n)) hR.drew.drew (hh r en hr) (by simp [Bd.count, Bd.sz]; omega) (fun i ys hy => by
  simp only [Bd.at, Option.map_eq_some_iff, List.getElem?_take] at hy
  obtain ⟨b, hb, rfl⟩ := hy
  split at hb
  ·refine ⟨[bv b], rfl, by simp only [reps, rep]; exact ⟨_, _, rfl, rfl, rfl⟩, fun j u hu => ?_⟩
   cases j with
   | zero => simp at hu; subst hu; simp [Bd.sz, bvs, hb]
   | succ j => simp at hu
  ·cases hb)).drews
 refine .inr ⟨_, _, by rw [run_callFunc_extern hf hname hb hnx he, h1]; rfl, .own r (en.ver + 1) 1 0 n, _, _, ⟨l.take n, by simp; omega, rfl, rfl⟩, ?_, O⟩
 rw [rep, Env.set_ver, Env.set_ρ]
 refine ⟨Nat.le_refl _, fun _ => ⟨_, l.length, rfl, h2, h3, (fun h => by cases h), .inr ⟨Env.set_abs _ _ _ _, rfl, _, _, _, heap_alloc_new _ _, by simp⟩⟩⟩
end
end Go.Proofs.YtmjpbmcbcppkfaaGreatDoor

/-! A function that is known for rows and plain values may be asked with slices of further rows of the caller's. Conditions: none. -/
namespace Go.Proofs.YtmjpbmcbcppkfaaGreatDoor
set_option linter.unusedVariables false
set_option linter.unusedSimpArgs false
open Go.RowKit
def rxR (n m : Nat) : Ren := ⟨fun r => if r < n then r else r + m, fun _ => 0⟩
def rxE (n m : Nat) (e : Ent) : Ent := ⟨e.ver, renB (rxR n m) e.bd⟩
def rxL (n m : Nat) : List Ent → List Ent
 | [] => []
 | e :: es => rxE n m e :: rxL n m es
def rxM (n m : Nat) : List (Nat × Ent) → List (Nat × Ent)
 | [] => []
 | (q, e) :: ms => (q + m, rxE n m e) :: rxM n m ms
def zfL : List Ent → Prop
 | [] => True
 | e :: es => zfB (Ent.bd e) ∧ zfL es
theorem zfL_get : ∀ {l : List Ent}, zfL l → ∀ (r : Nat) (e : Ent), l[r]? = some e → zfB e.bd
 | x :: l, h, 0, e, he => by simp at he; subst he; exact h.1
 | x :: l, h, r + 1, e, he => zfL_get (l := l) h.2 r e (by simpa using he)
theorem rxL_get (n m : Nat) : ∀ (l : List Ent) (r : Nat), (rxL n m l)[r]? = (l[r]?).map (rxE n m)
 | [], r => by simp [rxL]
 | x :: l, 0 => by simp [rxL]
 | x :: l, r + 1 => by simpa [rxL] using rxL_get n m l r
theorem rxL_len (n m : Nat) : ∀ (l : List Ent), (rxL n m l).length = l.length
 | [] => rfl
 | x :: l => by simp [rxL, rxL_len n m l]
def geM (n : Nat) : List (Nat × Ent) → Prop
 | [] => True
 | (q, _) :: ms => n ≤ q ∧ geM n ms
theorem geM_get {n : Nat} : ∀ {ms : List (Nat × Ent)}, geM n ms → ∀ q, q ∈ idsM ms → n ≤ q
 | (q', e') :: ms, h, q, hq => by
  simp only [idsM, List.mem_cons] at hq
  rcases hq with rfl | hq
  ·exact h.1
  ·exact geM_get h.2 q hq
def tellX (n m : Nat) (ids : List Nat) (q : Nat) (e : Ent) : Ent := if q < n ∨ q ∈ ids then rxE n m e else ⟨e.ver, .dead⟩
structure Sam (D : Nat → Prop) (E Ec : Env) : Prop where
 ver : ∀ r, D r → Ec.ver r = E.ver r
 rho : ∀ r, D r → Ec.ρ r = E.ρ r
 abs : ∀ r, D r → (Ec.abs r ↔ E.abs r)
 pl : ∀ r, D r → Ec.pl r = E.pl r
mutual
theorem rep_sam {D : Nat → Prop} {E Ec : Env} {w : World} (C : Sam D E Ec) : ∀ (x : AV) (v : Value), zfA x → onA D x → rep E w x v → rep Ec w x v
 | .any, v, _, _, h => by simp only [rep]
 | .val u, v, _, _, h => by simp only [rep] at h ⊢; exact h
 | .agg l, v, hz, ho, h => by
  simp only [rep] at h ⊢
  obtain ⟨cs, rfl, h⟩ := h
  exact ⟨cs, rfl, reps_sam C l cs hz ho h⟩
 | .tup l, v, hz, ho, h => by
  simp only [rep] at h ⊢
  obtain ⟨cs, rfl, h⟩ := h
  exact ⟨cs, rfl, reps_sam C l cs hz ho h⟩
 | .bs z l, v, hz, _, _ => hz.elim
 | .sl z sz f d l, v, hz, _, _ => hz.elim
 | .own r ver sz off n, v, hz, ho, h => by
  simp only [rep, C.ver r ho, C.rho r ho, C.abs r ho] at h ⊢
  exact h
 | .ref r ver sz i j, v, hz, ho, h => by
  simp only [rep, C.ver r ho, C.rho r ho] at h ⊢
  exact h
 | .cp z cells j, v, hz, _, _ => hz.elim
 | .clo f caps, v, hz, ho, h => by
  simp only [rep] at h ⊢
  obtain ⟨cs, rfl, h⟩ := h
  exact ⟨cs, rfl, reps_sam C caps cs hz ho h⟩
 | .yld r ver, v, hz, ho, h => by
  simp only [rep, C.ver r ho, C.rho r ho] at h ⊢
  exact h
 | .mth f l, v, hz, ho, h => by
  simp only [rep] at h ⊢
  obtain ⟨cs, rfl, h⟩ := h
  exact ⟨cs, rfl, reps_sam C l cs hz ho h⟩
 | .ifc t x, v, hz, ho, h => by
  simp only [rep] at h ⊢
  obtain ⟨u, rfl, h⟩ := h
  exact ⟨u, rfl, rep_sam C x u hz ho h⟩
 | .mp r ver, v, hz, ho, h => by
  simp only [rep, C.ver r ho, C.rho r ho] at h ⊢
  exact h
 | .pl r ver i off n, v, hz, ho, h => by
  simp only [rep, C.ver r ho, C.pl r ho] at h ⊢
  exact h
 | .plr r ver i k, v, hz, ho, h => by
  simp only [rep, C.ver r ho, C.pl r ho] at h ⊢
  exact h
 | .gd φ x, v, hz, ho, h => by
  simp only [rep] at h ⊢
  exact ⟨fun p => rep_sam C x v hz ho (h.1 p), h.2⟩
theorem reps_sam {D : Nat → Prop} {E Ec : Env} {w : World} (C : Sam D E Ec) : ∀ (xs : List AV) (vs : List Value), zfAs xs → onAs D xs → reps E w xs vs → reps Ec w xs vs
 | [], vs, _, _, h => by simp only [reps] at h ⊢; exact h
 | x :: xs, vs, hz, ho, h => by
  simp only [reps] at h ⊢
  obtain ⟨v, vs', rfl, h1, h2⟩ := h
  exact ⟨v, vs', rfl, rep_sam C x v hz.1 ho.1 h1, reps_sam C xs vs' hz.2 ho.2 h2⟩
end
theorem EntRep.sam {D : Nat → Prop} {E Ec : Env} {w : World} (C : Sam D E Ec) {b : Nat} {bd : Bd} (hz : zfB bd) (ho : onB D bd) (h : EntRep E w b bd) : EntRep Ec w b bd :=
 ⟨fun hl => by
  obtain ⟨cur, T, lo, hi, h1, h2, h3, h4⟩ := h.blk hl
  exact ⟨cur, T, lo, hi, h1, h2, h3, fun i ys hy => by
   obtain ⟨cs, h5, h6, h7⟩ := h4 i ys hy
   exact ⟨cs, h5, reps_sam C _ _ (zfB_at hz hy) (onB_at ho hy) h6, h7⟩⟩, fun i tR st e => by subst e; exact hz.elim⟩
section
variable {P : Program}
def AsX (H0 R : List Ent) (args args0 : List AV) : Prop := ∀ (E E0 : Env) (w : World) (vs : List Value), HR E w (H0 ++ R) →
 (∀ z b, E0.zone z b ↔ z = 0 ∧ b < w.heap.size ∧ ∀ (r : Nat) (e : Ent), H0[r]? = some e → ¬ Blk E r e b) →
 (∀ r, r < H0.length → E0.ρ r = E.ρ r ∧ E0.ver r = E.ver r ∧ (E0.abs r ↔ E.abs r) ∧ E0.pl r = E.pl r) → reps E w args vs → reps E0 w args0 vs
theorem spec_rx {f : FuncId} {args0 : List AV} {H0 : List Ent} {X : AV} {rows : List Ent} {mk : List (Nat × Ent)} (S : Spec P f args0 H0 (pms X rows mk)) (hX : zfA X) (hH : zfL H0) (hHo : allR (fun _ e => onB (· < H0.length) e.bd) H0 0) (hrw : zfL rows) (hrl : rows.length = H0.length) (hmk : zfM mk) (hge : geM H0.length mk) {args : List AV} {R : List Ent}
    (hargs : AsX H0 R args args0) :
    Spec P f args (H0 ++ R) (pms (renA (rxR H0.length R.length) X) (rxL H0.length R.length rows ++ R) (rxM H0.length R.length mk)) := by
 intro w E cargs hr hcargs
 obtain ⟨n, hn⟩ : ∃ n, n = H0.length := ⟨_, rfl⟩
 obtain ⟨m, hm⟩ : ∃ m, m = R.length := ⟨_, rfl⟩
 rw [← hn] at hge hrl hHo
 have hlenHR : (H0 ++ R).length = n + m := by rw [List.length_append]; omega
 have getH : ∀ (r : Nat) (e : Ent), H0[r]? = some e → (H0 ++ R)[r]? = some e ∧ r < n := fun r e h => by
  have := (List.getElem?_eq_some_iff.1 h).1
  exact ⟨by rw [List.getElem?_append_left this]; exact h, by omega⟩
 have getR : ∀ (q : Nat) (e : Ent), R[q]? = some e → (H0 ++ R)[q + n]? = some e ∧ q < m := fun q e h => by
  have := (List.getElem?_eq_some_iff.1 h).1
  exact ⟨by rw [List.getElem?_append_right (by omega), show q + n - H0.length = q by omega]; exact h, by omega⟩
 have htop := hr.top
 rw [hlenHR] at htop
 obtain ⟨E0, hE0⟩ : ∃ E0 : Env, E0 = { ρ := fun r => if r < n then E.ρ r else E.ρ (r + m), ver := fun r => if r < n then E.ver r else 0, zone := fun z b => z = 0 ∧ b < w.heap.size ∧ ∀ (r : Nat) (e : Ent), H0[r]? = some e → ¬ Blk E r e b, abs := fun r => if r < n then E.abs r else False, pl := fun r => if r < n then E.pl r else E.pl (r + m) } := ⟨_, rfl⟩
 have hz0 : ∀ z b, E0.zone z b ↔ z = 0 ∧ b < w.heap.size ∧ ∀ (r : Nat) (e : Ent), H0[r]? = some e → ¬ Blk E r e b := by subst hE0; exact fun _ _ => Iff.rfl
 have lo0 : ∀ r, r < n → E0.ρ r = E.ρ r ∧ E0.ver r = E.ver r ∧ (E0.abs r ↔ E.abs r) := by intro r h; subst hE0; simp [h]
 have hi0 : ∀ r, ¬ r < n → E0.ρ r = E.ρ (r + m) ∧ E0.ver r = 0 ∧ ¬ E0.abs r := by intro r h; subst hE0; simp [h]
 have lo0P : ∀ r, r < n → E0.pl r = E.pl r := by intro r h; subst hE0; simp [h]
 have hi0P : ∀ r, ¬ r < n → E0.pl r = E.pl (r + m) := by intro r h; subst hE0; simp [h]
 have liv0 : ∀ (r : Nat) (e : Ent), r < n → (Liv E0 r e ↔ Liv E r e) := fun r e h => by unfold Liv; rw [(lo0 r h).2.2]
 have blk0 : ∀ (r : Nat) (e : Ent) (b : Nat), r < n → (Blk E0 r e b ↔ Blk E r e b) := fun r e b h => by unfold Blk; rw [liv0 r e h, (lo0 r h).1, lo0P r h]
 have S0 : Sam (· < n) E E0 := ⟨fun r h => (lo0 r h).2.1, fun r h => (lo0 r h).1, fun r h => (lo0 r h).2.2, fun r h => lo0P r h⟩
 have hr0 : HR E0 w H0 := by
  refine ⟨fun r e h => ?_, fun r e h hl => ?_, fun r e h ha => ?_, fun r r' e e' b h h' hl hl' => ?_, fun z b h => ((hz0 z b).1 h).2.1, fun r e b h hl z hz => ?_, fun r h => ?_, fun g cs hg => ⟨(hz0 0 g).2 ⟨rfl, hr.zlt 0 g (hr.gl g cs hg).1, fun r e h hl => hr.zrow r e g (getH r e h).1 hl 0 (hr.gl g cs hg).1⟩, (hr.gl g cs hg).2⟩, fun r v ls h => ?_⟩
  ·rw [(lo0 r (getH r e h).2).2.1]; exact hr.ver r e (getH r e h).1
  ·have h2 := (getH r e h).2
   rw [(lo0 r h2).1]
   have h3 := allR_get hHo h
   exact (hr.ent r e (getH r e h).1 ((liv0 r e h2).1 hl)).sam S0 (zfL_get hH r e h) h3
  ·exact hr.abs r e (getH r e h).1 ((lo0 r (getH r e h).2).2.2.1 ha)
  ·have h2 := (getH r e h).2; have h2' := (getH r' e' h').2
   exact hr.inj r r' e e' b (getH r e h).1 (getH r' e' h').1 ((blk0 r e b h2).1 hl) ((blk0 r' e' b h2').1 hl')
  ·have h2 := (getH r e h).2
   exact ((hz0 z _).1 hz).2.2 r e h ((blk0 r e b h2).1 hl)
  ·have := hi0 r (by omega); exact ⟨this.2.1, this.2.2⟩
  ·rw [lo0P r (getH r _ h).2]; exact hr.pool r v ls (getH r _ h).1
 refine Calls.mono (S w E0 cargs hr0 (hargs E E0 w cargs hr hz0 (fun r h => ⟨(lo0 r (by omega)).1, (lo0 r (by omega)).2.1, (lo0 r (by omega)).2.2, lo0P r (by omega)⟩) hcargs)) fun e w' ⟨v, x, H1, E1, he, hpo, hv, hr1, X1, hz1, hlen1, hrows1, hfr⟩ => ?_
 obtain ⟨tl, hx1, hH1, hal⟩ := hpo
 have hall : ∀ k, k < w.heap.size → (∀ (r : Nat) (e : Ent), H0[r]? = some e → ¬ Blk E r e k) → w'.heap[k]? = w.heap[k]? := fun k hk h => X1.cell 0 k ((hz0 0 k).2 ⟨rfl, hk, h⟩)
 have hsize := hfr.size
 have hnew : ∀ (r : Nat) (e : Ent) (b : Nat), H1[r]? = some e → Blk E1 r e b → w.heap.size ≤ b ∨ (∃ (r0 : Nat) (e0 : Ent), r0 < n ∧ H0[r0]? = some e0 ∧ Blk E r0 e0 b) := by
  intro r e b h1 h2
  rcases hrows1 r e b h1 h2 with h | ⟨r0, e0, h, h3⟩
  ·exact .inl h
  ·have h5 := (getH r0 e0 h).2
   exact .inr ⟨r0, e0, h5, h, (blk0 r0 e0 b h5).1 h3⟩
 obtain ⟨E', hE'⟩ : ∃ E' : Env, E' = { ρ := fun k => if k < n then E1.ρ k else if k < n + m then E.ρ k else E1.ρ (k - m), ver := fun k => if k < n then E1.ver k else if k < n + m then E.ver k else E1.ver (k - m), zone := E.zone, abs := fun k => if k < n then E1.abs k else if k < n + m then E.abs k else E1.abs (k - m), pl := fun k => if k < n then E1.pl k else if k < n + m then E.pl k else E1.pl (k - m) } := ⟨_, rfl⟩
 have lo : ∀ k, k < n → E'.ρ k = E1.ρ k ∧ E'.ver k = E1.ver k ∧ (E'.abs k ↔ E1.abs k) := by intro k hk; subst hE'; simp [hk]
 have mi : ∀ k, k < m → E'.ρ (k + n) = E.ρ (k + n) ∧ E'.ver (k + n) = E.ver (k + n) ∧ (E'.abs (k + n) ↔ E.abs (k + n)) := by
  intro k hk; subst hE'
  have h1 : ¬ k + n < n := by omega
  have h2 : k + n < n + m := by omega
  simp [h1, h2]
 have hi : ∀ k, ¬ k < n → E'.ρ (k + m) = E1.ρ k ∧ E'.ver (k + m) = E1.ver k ∧ (E'.abs (k + m) ↔ E1.abs k) := by
  intro k hk; subst hE'
  have h1 : ¬ k + m < n := by omega
  have h2 : ¬ k + m < n + m := by omega
  simp [h1, h2]
 have loP : ∀ k, k < n → E'.pl k = E1.pl k := by intro k hk; subst hE'; simp [hk]
 have miP : ∀ k, k < m → E'.pl (k + n) = E.pl (k + n) := by
  intro k hk; subst hE'
  have h1 : ¬ k + n < n := by omega
  have h2 : k + n < n + m := by omega
  simp [h1, h2]
 have hiP : ∀ k, ¬ k < n → E'.pl (k + m) = E1.pl k := by
  intro k hk; subst hE'
  have h1 : ¬ k + m < n := by omega
  have h2 : ¬ k + m < n + m := by omega
  simp [h1, h2]
 have three : ∀ k, k < n ∨ (∃ q, q < m ∧ k = q + n) ∨ (∃ q, ¬ q < n ∧ k = q + m) := by
  intro k
  by_cases h1 : k < n
  ·exact .inl h1
  ·by_cases h2 : k < n + m
   ·exact .inr (.inl ⟨k - n, by omega, by omega⟩)
   ·exact .inr (.inr ⟨k - m, by omega, by omega⟩)
 have ez : ∀ z b, E'.zone z b ↔ E.zone z b := by intro z b; subst hE'; exact Iff.rfl
 have C : Co2 (rxR n m) E1 E' := by
  refine ⟨fun r => ?_, fun r => ?_, fun r => ?_, fun r => ?_⟩ <;> by_cases h : r < n
  ·simp only [rxR, if_pos h, Nat.add_zero]; exact (lo r h).2.1
  ·simp only [rxR, if_neg h, Nat.add_zero]; exact (hi r h).2.1
  ·simp only [rxR, if_pos h]; exact (lo r h).1
  ·simp only [rxR, if_neg h]; exact (hi r h).1
  ·simp only [rxR, if_pos h]; exact (lo r h).2.2
  ·simp only [rxR, if_neg h]; exact (hi r h).2.2
  ·simp only [rxR, if_pos h]; exact loP r h
  ·simp only [rxR, if_neg h]; exact hiP r h
 have keepR : ∀ (q : Nat) (e : Ent) (b : Nat), R[q]? = some e → Blk E (q + n) e b → w'.heap[b]? = w.heap[b]? := by
  intro q e b h hl
  refine hall _ (hr.blt (getR q e h).1 hl) fun r e' h' hl' => ?_
  have := hr.inj r (q + n) e' e b (getH r e' h').1 (getR q e h).1 hl' hl
  have := (getH r e' h').2; omega
 have X : Ext E E' w w' := by
  refine ⟨fun k => ?_, fun k hk => ?_, fun k hk => ?_, fun z b h => (ez z b).2 h, fun z b h => hall b (hr.zlt z b h) (fun r e h1 h2 => hr.zrow r e b (getH r e h1).1 h2 z h), fun k cur T fz h => hfr.grow _ cur T fz h, fun k hk i b hb => ?_⟩
  ·rcases three k with h | ⟨q, h, rfl⟩ | ⟨q, h, rfl⟩
   ·rw [(lo k h).2.1, ← (lo0 k h).2.1]; exact X1.ver k
   ·rw [(mi q h).2.1]; exact Nat.le_refl _
   ·rw [(htop (q + m) (by omega)).1]; exact Nat.zero_le _
  ·rcases three k with h | ⟨q, h, rfl⟩ | ⟨q, h, rfl⟩
   ·rw [(lo k h).2.1, ← (lo0 k h).2.1] at hk
    rw [(lo k h).1, X1.rho k hk, (lo0 k h).1]
   ·exact (mi q h).1
   ·rw [(hi q h).2.1, (htop (q + m) (by omega)).1] at hk
    rw [(hi q h).1, X1.rho q (by rw [hk, (hi0 q h).2.1]), (hi0 q h).1]
  ·rcases three k with h | ⟨q, h, rfl⟩ | ⟨q, h, rfl⟩
   ·rw [(lo k h).2.1, ← (lo0 k h).2.1] at hk
    rw [(lo k h).2.2, X1.abs k hk, (lo0 k h).2.2]
   ·exact (mi q h).2.2
   ·rw [(hi q h).2.1, (htop (q + m) (by omega)).1] at hk
    rw [(hi q h).2.2, X1.abs q (by rw [hk, (hi0 q h).2.1])]
    exact ⟨fun a => ((hi0 q h).2.2 a).elim, fun a => ((htop (q + m) (by omega)).2 a).elim⟩
  ·rcases three k with h | ⟨q, h, rfl⟩ | ⟨q, h, rfl⟩
   ·rw [(lo k h).2.1, ← (lo0 k h).2.1] at hk
    rw [loP k h]
    exact X1.pl k hk i b (by rw [lo0P k h]; exact hb)
   ·rw [miP q h]; exact hb
   ·rw [(hi q h).2.1, (htop (q + m) (by omega)).1] at hk
    rw [hiP q h]
    exact X1.pl q (by rw [hk, (hi0 q h).2.1]) i b (by rw [hi0P q h]; exact hb)
 have hH1len : n ≤ H1.length := by omega
 obtain ⟨H', hH'⟩ : ∃ H' : List Ent, H' = rxL n m rows ++ R ++ (tl.mapIdx fun q e => tellX n m (idsM mk) (q + n) e) := ⟨_, rfl⟩
 have lrx : (rxL n m rows).length = n := by rw [rxL_len]; exact hrl
 have get1 : ∀ r, r < n → H1[r]? = rows[r]? := fun r h => by rw [hH1, List.getElem?_append_left (by omega)]
 have get2 : ∀ q, ¬ q < n → H1[q]? = tl[q - n]? := fun q h => by rw [hH1, List.getElem?_append_right (by omega), hrl]
 have get : ∀ (k : Nat) (e : Ent), H'[k]? = some e → (k < n ∧ ∃ e1, H1[k]? = some e1 ∧ rows[k]? = some e1 ∧ e = rxE n m e1) ∨ (∃ q, k = q + n ∧ R[q]? = some e) ∨ (∃ q e1, ¬ q < n ∧ k = q + m ∧ H1[q]? = some e1 ∧ e = tellX n m (idsM mk) q e1) := by
  intro k e h
  rw [hH', List.append_assoc, List.getElem?_append] at h
  split at h
  ·rename_i q
   rw [rxL_get, Option.map_eq_some_iff] at h
   obtain ⟨e1, h1, h2⟩ := h
   exact .inl ⟨by omega, e1, by rw [get1 k (by omega)]; exact h1, h1, h2.symm⟩
  ·rename_i q
   rw [List.getElem?_append] at h
   split at h
   ·exact .inr (.inl ⟨k - n, by omega, by rw [lrx] at h; exact h⟩)
   ·rename_i q2
    rw [List.getElem?_mapIdx, Option.map_eq_some_iff] at h
    obtain ⟨e1, h1, h2⟩ := h
    rw [lrx] at h1 h2 q2
    refine .inr (.inr ⟨k - m, e1, by omega, by omega, ?_, ?_⟩)
    ·rw [get2 _ (by omega), ← h1]; congr 1; omega
    ·rw [← h2]; congr 1; omega
 have told : ∀ {q : Nat} {e1 : Ent}, H1[q]? = some e1 → (tellX n m (idsM mk) q e1).bd.live = true → ¬ q < n → tellX n m (idsM mk) q e1 = rxE n m e1 ∧ zfB e1.bd ∧ e1.bd.live = true := by
  intro q e1 h1 hl hq0
  unfold tellX at hl ⊢
  split at hl
  ·rename_i hq
   rw [if_pos hq]
   refine ⟨rfl, ?_, by unfold rxE at hl; rw [(renB_sz (R := rxR n m) (b := e1.bd)).2.2] at hl; exact hl⟩
   obtain ⟨e2, h2, h3⟩ := allM_get hal q (hq.resolve_left hq0)
   rw [getL_eq, h1] at h3
   cases h3
   exact zfM_get hmk q _ h2
  ·cases hl
 have tver : ∀ (q : Nat) (e1 : Ent), (tellX n m (idsM mk) q e1).ver = e1.ver := by intro q e1; unfold tellX; split <;> rfl
 have liv : ∀ (k : Nat) (e : Ent), H'[k]? = some e → Liv E' k e → (∃ q e1, (q < n ∧ k = q ∨ ¬ q < n ∧ k = q + m) ∧ H1[q]? = some e1 ∧ Liv E1 q e1 ∧ e = rxE n m e1 ∧ zfB e1.bd ∧ E'.ρ k = E1.ρ q) ∨ (∃ q, k = q + n ∧ R[q]? = some e ∧ Liv E (q + n) e ∧ E'.ρ k = E.ρ (q + n)) := by
  intro k e h hl
  rcases get k e h with ⟨h1, e1, h2, h3, rfl⟩ | ⟨q, rfl, h2⟩ | ⟨q, e1, h1, rfl, h2, rfl⟩
  ·refine .inl ⟨k, e1, .inl ⟨h1, rfl⟩, h2, ⟨?_, fun a => hl.2 ((lo k h1).2.2.2 a)⟩, rfl, zfL_get hrw k e1 h3, (lo k h1).1⟩
   have := hl.1; unfold rxE at this; rw [(renB_sz (R := rxR n m) (b := e1.bd)).2.2] at this; exact this
  ·have hq := (getR q e h2).2
   exact .inr ⟨q, rfl, h2, ⟨hl.1, fun a => hl.2 ((mi q hq).2.2.2 a)⟩, (mi q hq).1⟩
  ·obtain ⟨t1, t2, t3⟩ := told h2 hl.1 h1
   exact .inl ⟨q, e1, .inr ⟨h1, rfl⟩, h2, ⟨t3, fun a => hl.2 ((hi q h1).2.2.2 a)⟩, t1, t2, (hi q h1).1⟩
 have blk : ∀ (k : Nat) (e : Ent) (b : Nat), H'[k]? = some e → Blk E' k e b → (∃ q e1, (q < n ∧ k = q ∨ ¬ q < n ∧ k = q + m) ∧ H1[q]? = some e1 ∧ Blk E1 q e1 b) ∨ (∃ q, k = q + n ∧ R[q]? = some e ∧ Blk E (q + n) e b) := by
  intro k e b h hb
  have s1 : ∀ q, q < n → (rxR n m).σ q = q := fun q hq => by simp [rxR, hq]
  have s2 : ∀ q, ¬ q < n → (rxR n m).σ q = q + m := fun q hq => by simp [rxR, hq]
  rcases get k e h with ⟨h1, e1, h2, h3, rfl⟩ | ⟨q, rfl, h2⟩ | ⟨q, e1, h1, rfl, h2, rfl⟩
  ·exact .inl ⟨k, e1, .inl ⟨h1, rfl⟩, h2, (C.blk k e1 e1.ver b).2 (by rw [s1 k h1]; exact hb)⟩
  ·have hq := (getR q e h2).2
   refine .inr ⟨q, rfl, h2, ?_⟩
   unfold Blk Liv at hb ⊢
   rwa [(mi q hq).1, (mi q hq).2.2, miP q hq] at hb
  ·unfold tellX at hb
   split at hb
   ·exact .inl ⟨q, e1, .inr ⟨h1, rfl⟩, h2, (C.blk q e1 e1.ver b).2 (by rw [s2 q h1]; exact hb)⟩
   ·exact absurd hb Blk.dead
 have hHR : HR E' w' H' := by
  refine ⟨?_, ?_, ?_, ?_, ?_, ?_, ?_, hr.gl.ext X, ?_⟩
  ·intro k e h
   rcases get k e h with ⟨h1, e1, h2, h3, rfl⟩ | ⟨q, rfl, h2⟩ | ⟨q, e1, h1, rfl, h2, rfl⟩
   ·rw [(lo k h1).2.1]; exact hr1.ver k e1 h2
   ·rw [(mi q (getR q e h2).2).2.1]; exact hr.ver _ e (getR q e h2).1
   ·rw [(hi q h1).2.1, tver]; exact hr1.ver q e1 h2
  ·intro k e h hl
   rcases liv k e h hl with ⟨q, e1, h1, h2, h3, rfl, h4, h5⟩ | ⟨q, rfl, h2, h3, h5⟩
   ·rw [h5]
    exact (hr1.ent q e1 h2 h3).co2 C h4
   ·rw [h5]
    exact (hr.ent _ e (getR q e h2).1 h3).ext X (keepR q e _ h2 (Blk.of h3))
  ·intro k e h ha
   rcases get k e h with ⟨h1, e1, h2, h3, rfl⟩ | ⟨q, rfl, h2⟩ | ⟨q, e1, h1, rfl, h2, rfl⟩
   ·have := hr1.abs k e1 h2 ((lo k h1).2.2.1 ha)
    unfold rxE; rw [(renB_sz (R := rxR n m) (b := e1.bd)).2.1]; exact this
   ·exact hr.abs _ e (getR q e h2).1 ((mi q (getR q e h2).2).2.2.1 ha)
   ·have := hr1.abs q e1 h2 ((hi q h1).2.2.1 ha)
    unfold tellX; split
    ·unfold rxE; rw [(renB_sz (R := rxR n m) (b := e1.bd)).2.1]; exact this
    ·rfl
  ·intro k k' e e' b h h' hl hl'
   rcases blk k e b h hl with ⟨q, e1, h1, h2, h3⟩ | ⟨q, rfl, h2, h3⟩ <;> rcases blk k' e' b h' hl' with ⟨q', e1', g1, g2, g3⟩ | ⟨q', rfl, g2, g3⟩
   ·have := hr1.inj q q' e1 e1' b h2 g2 h3 g3
    omega
   ·have k1 := hr.blt (getR q' e' g2).1 g3
    rcases hnew q e1 b h2 h3 with h | ⟨r0, e0, k2, k3, k4⟩
    ·omega
    ·have := hr.inj r0 (q' + n) e0 e' b (getH r0 e0 k3).1 (getR q' e' g2).1 k4 g3
     omega
   ·have k1 := hr.blt (getR q e h2).1 h3
    rcases hnew q' e1' b g2 g3 with h | ⟨r0, e0, k2, k3, k4⟩
    ·omega
    ·have := hr.inj (q + n) r0 e e0 b (getR q e h2).1 (getH r0 e0 k3).1 h3 k4
     omega
   ·exact hr.inj _ _ e e' b (getR q e h2).1 (getR q' e' g2).1 h3 g3
  ·exact fun z b h => Nat.lt_of_lt_of_le (hr.zlt z b ((ez z b).1 h)) hsize
  ·intro k e b h hl z hz
   have hz' := (ez z _).1 hz
   rcases blk k e b h hl with ⟨q, e1, h1, h2, h3⟩ | ⟨q, rfl, h2, h3⟩
   ·rcases hnew q e1 b h2 h3 with h | ⟨r0, e0, k2, k3, k4⟩
    ·have := hr.zlt z _ hz'; omega
    ·exact hr.zrow r0 e0 b (getH r0 e0 k3).1 k4 z hz'
   ·exact hr.zrow _ e b (getR q e h2).1 h3 z hz'
  ·intro k hk
   have hl1 : H1.length = n + tl.length := by rw [hH1, List.length_append, hrl]
   rw [hH', List.length_append, List.length_append, lrx, List.length_mapIdx] at hk
   have := hr1.top (k - m) (by omega)
   have h2 := hi (k - m) (by omega)
   rw [show k - m + m = k by omega] at h2
   rw [h2.2.1]
   exact ⟨this.1, fun a => this.2 (h2.2.2.1 a)⟩
  ·intro k v ls h
   rcases get k _ h with ⟨h1, e1, h2, h3, h4⟩ | ⟨q, rfl, h2⟩ | ⟨q, e1, h1, rfl, h2, h4⟩
   ·rw [loP k h1]
    exact hr1.pool k e1.ver ls (by rw [h2, ← renB_pool (Ent.mk.inj h4).2.symm])
   ·rw [miP q (getR q _ h2).2]
    exact (hr.pool _ v ls (getR q _ h2).1).cong fun i b hb => keepR q _ b h2 (.inr ⟨rfl, i, hb⟩)
   ·unfold tellX at h4
    split at h4
    ·rw [hiP q h1]
     exact hr1.pool q e1.ver ls (by rw [h2, ← renB_pool (Ent.mk.inj h4).2.symm])
    ·cases h4
 refine ⟨v, renA (rxR n m) x, H', E', he, ⟨_, by rw [hx1, hn, hm], by rw [hH', hn, hm], ?_⟩, ?_, hHR, X, fun z b h => .inl ((ez z b).1 h), by rw [hH', hlenHR, List.length_append, List.length_append, lrx]; omega, ?_, ⟨hfr.os, hfr.tape, hfr.output, hfr.size, fun k hk hkeep => ?_, hfr.grow, ?_⟩⟩
 ·have key : ∀ (ms : List (Nat × Ent)), (∀ q, q ∈ idsM ms → q ∈ idsM mk) → geM n ms → allM H1 ms → allM H' (rxM n m ms) := by
    intro ms
    induction ms with
    | nil => intro _ _ _; trivial
    | cons y ms ih =>
     obtain ⟨q, e⟩ := y
     intro hsub hg hm'
     refine ⟨?_, ih (fun q' hq' => hsub q' (by simp [idsM, hq'])) hg.2 hm'.2⟩
     have h1 := hm'.1
     have hqn : ¬ q < n := by have := hg.1; omega
     rw [getL_eq, get2 q hqn] at h1
     rw [getL_eq, hH', List.getElem?_append_right (by rw [List.length_append, lrx]; omega), List.getElem?_mapIdx, List.length_append, lrx, show q + m - (n + R.length) = q - n by omega, h1]
     unfold tellX
     have : q - n + n = q := by omega
     simp [hsub q (by simp [idsM]), this]
  rw [← hn, ← hm]
  exact key mk (fun _ h => h) hge hal
 ·rw [hx1]
  rw [hx1] at hv
  exact rep_co2 C _ _ hX hv
 ·intro k e b h hl
  rcases blk k e b h hl with ⟨q, e1, h1, h2, h3⟩ | ⟨q, rfl, h2, h3⟩
  ·rcases hnew q e1 b h2 h3 with h | ⟨r0, e0, k2, k3, k4⟩
   ·exact .inl h
   ·exact .inr ⟨r0, e0, (getH r0 e0 k3).1, k4⟩
  ·exact .inr ⟨_, e, (getR q e h2).1, h3⟩
 ·exact hfr.block k hk fun r e h1 h2 => hkeep r e (getH r e h1).1 ((blk0 r e k (getH r e h1).2).1 h2)
 ·intro k e b h hl hlt
  rcases blk k e b h hl with ⟨q, e1, h1, h2, h3⟩ | ⟨q, rfl, h2, h3⟩
  ·rcases hnew q e1 b h2 h3 with h | ⟨r0, e0, k2, k3, k4⟩
   ·omega
   ·intro hk; exact hk r0 e0 (getH r0 e0 k3).1 k4
  ·intro hk; exact hk _ e (getR q e h2).1 h3
/-! how arguments read -/
def AX (H0 R : List Ent) (x x0 : AV) : Prop := ∀ (E E0 : Env) (w : World) (v : Value), HR E w (H0 ++ R) →
 (∀ z b, E0.zone z b ↔ z = 0 ∧ b < w.heap.size ∧ ∀ (r : Nat) (e : Ent), H0[r]? = some e → ¬ Blk E r e b) →
 (∀ r, r < H0.length → E0.ρ r = E.ρ r ∧ E0.ver r = E.ver r ∧ (E0.abs r ↔ E.abs r) ∧ E0.pl r = E.pl r) → rep E w x v → rep E0 w x0 v
theorem asX_nil {H0 R : List Ent} : AsX H0 R [] [] := fun E E0 w vs _ _ _ h => by rw [reps] at h ⊢; exact h
theorem asX_cons {H0 R : List Ent} {x x0 : AV} {xs xs0 : List AV} (h : AX H0 R x x0) (k : AsX H0 R xs xs0) : AsX H0 R (x :: xs) (x0 :: xs0) := fun E E0 w vs hr hz hlo hv => by
 rw [reps] at hv ⊢
 obtain ⟨v, vs', rfl, h1, h2⟩ := hv
 exact ⟨v, vs', rfl, h E E0 w v hr hz hlo h1, k E E0 w vs' hr hz hlo h2⟩
theorem aX_same {H0 R : List Ent} {x : AV} (hz : zfA x) (ho : onA (· < H0.length) x) : AX H0 R x x := fun E E0 w v _ _ hlo h =>
 rep_sam ⟨fun r hr => (hlo r hr).2.1, fun r hr => (hlo r hr).1, fun r hr => (hlo r hr).2.2.1, fun r hr => (hlo r hr).2.2.2⟩ x v hz ho h
theorem aX_own {H0 R : List Ent} {q ver off n : Nat} {l : List UInt8} (he : getL R q = some ⟨ver, .bytes l⟩) (hle : off + n ≤ l.length) : AX H0 R (.own (q + H0.length) ver 1 off n) (.bs 0 ((l.drop off).take n)) := fun E E0 w v hr hz _ h => by
 rw [getL_eq] at he
 have heH : (H0 ++ R)[q + H0.length]? = some ⟨ver, .bytes l⟩ := by
  rw [List.getElem?_append_right (by omega), show q + H0.length - H0.length = q by omega]; exact he
 have hb := bs_of_own hr heH rfl rfl hle h
 rw [rep] at h
 obtain ⟨a', c', hv, h2, h3, h4, h5⟩ := h.2 (hr.ver _ _ heH).symm
 obtain ⟨a, n', c, hva, hS⟩ := hb
 rw [hv] at hva
 cases hva
 rw [hv, rep]
 refine ⟨a', n, c', rfl, hS.len1.symm, hS.le, hS.max, hS.nil, fun i x hx => ?_⟩
 have hn : 0 < n := by
  have := (List.getElem?_eq_some_iff.1 hx).1
  simp only [List.length_take, List.length_drop] at this; omega
 obtain ⟨hna, rfl, _⟩ := h5.resolve_left (by omega)
 have hc := hS.cell _ rfl i (bv x) (by rw [bvs, List.getElem?_map, hx]; rfl)
 rw [Addr.add_lit] at hc
 refine ⟨_, _, rfl, (hz 0 _).2 ⟨rfl, hr.lt heH ⟨rfl, hna⟩, fun r e hre hl => ?_⟩, hc⟩
 have hrl := (List.getElem?_eq_some_iff.1 hre).1
 have := hr.inj r (q + H0.length) e _ _ (by rw [List.getElem?_append_left hrl]; exact hre) heH hl (Blk.of ⟨rfl, hna⟩)
 omega
theorem pst_pms {X : AV} {rows : List Ent} {x : AV} {H : List Ent} (h : pst X rows x H) : pms X rows [] x H := by
 obtain ⟨tl, h1, h2⟩ := h
 exact ⟨tl, h1, h2, trivial⟩
theorem spec_mono {f : FuncId} {args : List AV} {H0 : List Ent} {p q : AV → List Ent → Prop} (S : Spec P f args H0 p) (h : ∀ x H, p x H → q x H) : Spec P f args H0 q := fun w E cargs hr ha =>
 Calls.mono (S w E cargs hr ha) fun e w' ⟨v, x, H1, E1, he, hpo, r⟩ => ⟨v, x, H1, E1, he, h x H1 hpo, r⟩
theorem spec_pms {f : FuncId} {args : List AV} {H0 : List Ent} {X : AV} {rows : List Ent} (S : Spec P f args H0 (pst X rows)) : Spec P f args H0 (pms X rows []) := spec_mono S fun _ _ h => pst_pms h
end
end Go.Proofs.YtmjpbmcbcppkfaaGreatDoor
