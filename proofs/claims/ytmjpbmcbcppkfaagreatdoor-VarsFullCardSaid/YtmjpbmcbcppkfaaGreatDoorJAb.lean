/- Abstract values: further operations, regions, code, functions. Conditions: none. -/
import Derived.Test.YtmjpbmcbcppkfaaGreatDoorJAa
import Derived.Test.YtmjpbmcbcppkfaaGreatDoorJRg
import Derived.Scope
import Derived.RangeFuncLeaves
import Derived.OrdersIn
import Derived.TacticsIn
import Derived.OwnWalkIn
import Derived.KernelRfl
/-! Abstract values: append, make, literals, as operations. Conditions: what 'TIok' says of the types. -/
namespace Go.Proofs.YtmjpbmcbcppkfaaGreatDoor
set_option linter.unusedVariables false
set_option linter.unusedSimpArgs false
open Go.RowKit
section
variable {P : Program} {o : Oper} {ev : Operand → AV} {hg : Nat → Option Ent}
theorem bcells_get {l : List UInt8} {i : Nat} {ys : List AV} : (bcells l)[i]? = some ys ↔ ∃ b, l[i]? = some b ∧ ys = [.val (bv b)] := by
 simp only [bcells, List.getElem?_map, Option.map_eq_some_iff]
 constructor
 ·rintro ⟨b, h1, h2⟩; exact ⟨b, h1, h2.symm⟩
 ·rintro ⟨b, h1, h2⟩; exact ⟨b, h1, h2.symm⟩
theorem updH_append : ∀ (us us' : List (Nat × Ent)) (H : List Ent), updH H (us ++ us') = updH (updH H us) us'
 | [], us', H => rfl
 | (r, e) :: us, us', H => by simp only [List.cons_append, updH]; exact updH_append us us' _
theorem Out.trans {E E1 E2 : Env} {w w1 w2 : World} {H : List Ent} {us us' : List (Nat × Ent)} (o : Out E E1 w w1 H us) (o' : Out E1 E2 w1 w2 (updH H us) us') : Out E E2 w w2 H (us ++ us') := by
 refine ⟨o.ext.trans o'.ext, by rw [updH_append]; exact o'.hr, o'.os.trans o.os, o'.tape.trans o.tape, o'.output.trans o.output, Nat.le_trans o.size o'.size, fun z b h => ?_, fun k cur T fz h => ?_, fun k hk h => ?_, fun r e b hr hl => ?_⟩
 ·rcases o'.zone z b h with h1 | h1 | ⟨r, e, h1, h2⟩
  ·exact o.zone z b h1
  ·exact .inr (.inl (Nat.le_trans o.size h1))
  ·rcases o.rows r e b h1 h2 with h3 | ⟨r0, e0, h3, h4, _⟩
   ·exact .inr (.inl h3)
   ·exact .inr (.inr ⟨r0, e0, h3, h4⟩)
 ·obtain ⟨c1, T1, f1, h1, h2⟩ := o.grow k cur T fz h
  obtain ⟨c2, T2, f2, h3, h4⟩ := o'.grow k c1 T1 f1 h1
  exact ⟨c2, T2, f2, h3, Nat.le_trans h2 h4⟩
 ·have hb := o.block k hk (fun r e hr hl hin => h r e hr hl (by rw [List.map_append]; exact List.mem_append_left _ hin))
  refine (o'.block k (Nat.lt_of_lt_of_le hk o.size) (fun r e hr hl hin => ?_)).trans hb
  rcases o.rows r e k hr hl with h1 | ⟨r0, e0, h2, h3, h4⟩
  ·omega
  ·refine h r0 e0 h2 h3 ?_
   rw [List.map_append]
   rcases h4 with rfl | h4
   ·exact List.mem_append_right _ hin
   ·exact List.mem_append_left _ h4
 ·rw [updH_append] at hr
  rcases o'.rows r e b hr hl with h1 | ⟨r0, e0, h2, h3, h7⟩
  ·exact .inl (Nat.le_trans o.size h1)
  ·rcases o.rows r0 e0 b h2 h3 with h4 | ⟨r1, e1, h5, h6, h8⟩
   ·exact .inl (by omega)
   ·refine .inr ⟨r1, e1, h5, h6, ?_⟩
    rw [List.map_append]
    rcases h8 with rfl | h8
    ·exact h7.imp id (List.mem_append_right _)
    ·exact .inr (List.mem_append_left _ h8)
def elsZ (tb : TypeId → Option TI) (hg : Nat → Option Ent) (Tx : TypeId) (ei : TI) (x : AV) (K : Prop → Nat → List (List AV) → Prop) : Prop := match tb Tx with
 | none => False
 | some xi => match xi.u with
  | .int _ => match x with
   | .val (.int _ n) => match ei.zero with
    | [u] => K (0 ≤ n ∧ n.toNat * ei.bytes ≤ 140737488355328 ∧ n ≤ 9223372036854775807 ∧ u.oneCell' = true ∧ ei.sz = 1) 1 (List.replicate n.toNat [.val u])
    | _ => False
   | _ => False
  | _ => elsK tb hg Tx x K
theorem elsZ_sound {tb : TypeId → Option TI} (htb : TbOk P tb) {T Tx ty El : TypeId} {ei : TI} (hT : P.underlying T = some (.slice El)) {i : TypeInfo} {z : Value} (hi : P.info? El = some i) (hiz : i.zero = some z) (hisz : i.size = ei.sz) (hiby : i.bytes = ei.bytes) (hzc : z.cells.toList = ei.zero)
    {x : AV} {K : Prop → Nat → List (List AV) → Prop} (h : elsZ tb hg Tx ei x K) :
    ∃ Ψ sz els, K Ψ sz els ∧ (Ψ → ∀ (E : Env) (H : List Ent) (w : World) (v : Value), HR E w H → (∀ (r : Nat) (e : Ent), hg r = some e → H[r]? = some e) → rep E w x v →
     (els = [] ∨ ei.sz = sz) → ∃ news, Ap P T Tx ty El i z v els.length news w ∧ ∀ k ys, els[k]? = some ys → ∃ us : List Value, us.length = ei.sz ∧ reps E w ys us ∧ ∀ j u, us[j]? = some u → news[k * ei.sz + j]? = some u) := by
 unfold elsZ at h
 split at h
 ·exact h.elim
 rename_i xi hxi
 have hTx := (htb Tx xi hxi).u
 split at h
 ·rename_i kn hu
  rw [hu] at hTx
  have hTx' : P.underlying Tx = some (.int kn) := hTx
  split at h
  rotate_left
  ·exact h.elim
  rename_i k n
  split at h
  rotate_left
  ·exact h.elim
  rename_i u hz0
  refine ⟨_, _, _, h, fun p E H w v hr hh hv hs => ?_⟩
  obtain ⟨p1, p2, p3, p4, p5⟩ := p
  have hv := rep_val hv
  have hn : (n : Int) = (n.toNat : Int) := by omega
  have hzz : z.cells = #[u] := by apply Array.ext'; rw [hzc, hz0]
  refine ⟨List.replicate n.toNat u, ?_, fun k ys hy => ?_⟩
  ·rw [hv, List.length_replicate, hn]
   exact Ap.ofZeros hT hTx' hi hiz hzz p4 (by omega) (by omega) (by rw [hiby]; omega)
  ·rw [List.getElem?_replicate] at hy
   split at hy
   ·rename_i hk
    cases hy
    refine ⟨[u], by rw [p5]; rfl, by simp only [reps, rep]; exact ⟨_, _, rfl, rfl, rfl⟩, fun j v hv => ?_⟩
    cases j with
    | zero => simp at hv; subst hv; rw [p5, Nat.mul_one, Nat.add_zero, List.getElem?_replicate, if_pos hk]
    | succ j => simp at hv
   ·cases hy
 ·obtain ⟨Ψ, sz, els, h1, h2⟩ := els_sound htb h
  refine ⟨Ψ, sz, els, h1, fun p E H w v hr hh hv hs => ?_⟩
  obtain ⟨news, h3, h4⟩ := h2 p E H w v hr hh hv ei.sz hs
  exact ⟨news, Ap.ofSrc hT hi hiz (by rw [hisz]; exact h3), h4⟩
/-! append -/
def appK (tb : TypeId → Option TI) (hg : Nat → Option Ent) (p : Nat) (o : Oper) (T Tx : TypeId) (s x : AV) (K : KF) : Prop := match tb T with
 | none => False
 | some ti => match ti.u with
  | .slice El => match tb El with
   | none => False
   | some ei => match s with
    | .own r ver sz off n => match hg r with
     | none => False
     | some e => match e.bd with
      | .bytes l => elsZ tb hg Tx ei x fun Ψ s2 els => ∃ m, K (ver = e.ver ∧ Ψ ∧ sz = 1 ∧ ei.sz = 1 ∧ off = 0 ∧ n = l.length ∧ s2 = 1 ∧ els = bcells m ∧ (l.length + m.length) * ei.bytes ≤ 140737488355328 ∧ 0 < ei.bytes) (.own r (e.ver + 1) 1 0 (l.length + m.length)) [(r, ⟨e.ver + 1, .bytes (l ++ m)⟩)]
      | .row sz' f d l => elsZ tb hg Tx ei x fun Ψ s2 els => ∃ (β : Type) (f' : β → List AV) (d' : β) (m : List β), K (ver = e.ver ∧ Ψ ∧ sz = sz' ∧ ei.sz = sz' ∧ off = 0 ∧ n = l.length ∧ (els = [] ∨ s2 = sz') ∧ l.map f ++ els = m.map f' ∧ m.length * ei.bytes ≤ 140737488355328 ∧ 0 < ei.bytes) (.own r (e.ver + 1) sz' 0 m.length) [(r, ⟨e.ver + 1, .row sz' f' d' m⟩)]
      | _ => False
    | .val (.slice none 0 0) => match o.dst with
     | none => False
     | some d => match hg (p + d) with
      | none => False
      | some e => match ei.u with
       | .int .u8 => elsZ tb hg Tx ei x fun Ψ s2 els => ∃ m, K (Ψ ∧ ei.sz = 1 ∧ s2 = 1 ∧ els = bcells m ∧ m.length * ei.bytes ≤ 140737488355328 ∧ 0 < ei.bytes) (.own (p + d) (e.ver + 2) 1 0 m.length) [(p + d, ⟨e.ver + 1, .bytes []⟩), (p + d, ⟨e.ver + 2, .bytes m⟩)]
       | _ => elsZ tb hg Tx ei x fun Ψ s2 els => ∃ (β : Type) (f' : β → List AV) (d' : β) (m : List β), K (Ψ ∧ (els = [] ∨ s2 = ei.sz) ∧ els = m.map f' ∧ m.length * ei.bytes ≤ 140737488355328 ∧ 0 < ei.bytes) (.own (p + d) (e.ver + 2) ei.sz 0 m.length) [(p + d, ⟨e.ver + 1, .row ei.sz f' d' []⟩), (p + d, ⟨e.ver + 2, .row ei.sz f' d' m⟩)]
    | _ => False
  | _ => False
theorem mul_bound {a b : Nat} (h : a * b ≤ 140737488355328) (hb : 0 < b) : a ≤ maxLen := by
 have : a * 1 ≤ a * b := Nat.mul_le_mul_left _ hb
 unfold maxLen; omega
theorem app_sound {tb : TypeId → Option TI} (htb : TbOk P tb) {p : Nat} {T Tx : TypeId} {s x : Operand} (ho : o.op = .call { callee := .builtin .append, args := #[s, x], argTypes := #[T, Tx] })
 {K : KF} (h : appK tb hg p o T Tx (ev s) (ev x) K) : ∃ Φ v us, K Φ v us ∧ Snd P o ev hg Φ v us := by
  unfold appK at h
  split at h
  ·exact h.elim
  rename_i ti hti
  have hT := (htb T ti hti).u
  split at h
  rotate_left
  ·exact h.elim
  rename_i El hu
  rw [hu] at hT
  have hT' : P.underlying T = some (.slice El) := hT
  split at h
  ·exact h.elim
  rename_i ei hei
  have hE := htb El ei hei
  obtain ⟨z, hz, hzc⟩ := hE.info
  obtain ⟨i, hi, hiz, hisz, hiby⟩ := info_parts hz
  have hops2 : ∀ {E : Env} {w : World} {ρv : Operand → Value}, (∀ x ∈ opnds o.op, rep E w (ev x) (ρv x)) → rep E w (ev s) (ρv s) ∧ rep E w (ev x) (ρv x) := by
   intro E w ρv hops
   rw [ho] at hops
   exact ⟨hops s (by simp [opnds]), hops x (by simp [opnds])⟩
  have hex : ∀ {w w' : World} {ρv : Operand → Value} {v : Value}, (Builtin.append_ #[T, Tx] o.type #[ρv s, ρv x]).run P w = .ok v w' → (execOp ρv o).run P w = .ok (.value v) w' := by
   intro w w' ρv v hr
   unfold execOp
   simp only [ho, resolve, invoke, builtin, Sem.run_bind, Sem.run_pure, Result.andThen_ok, List.map_toArray, List.map_cons, List.map_nil, hr]
  split at h
  ·rename_i r ver sz off n hs
   split at h
   ·exact h.elim
   rename_i e he
   split at h
   ·rename_i l hb
    obtain ⟨Ψ, s2, els, h, hels⟩ := elsZ_sound (ty := o.type) htb hT' hi hiz hisz hiby hzc h
    obtain ⟨m, h⟩ := h
    refine ⟨_, _, _, h, fun q E H w ρv hr hh hops => ?_⟩
    obtain ⟨q1, q2, q3, q4, q5, q6, q7, q8, q9, hbp⟩ := q
    obtain ⟨hv, hx⟩ := hops2 hops
    rw [hs, q3, q5] at hv
    have hH := hh r e he
    obtain ⟨news, hsrc, hat⟩ := hels q2 E H w _ hr hh hx (.inr (q4.trans q7.symm))
    have hlen : els.length = m.length := by rw [q8]; simp [bcells]
    rw [hlen] at hsrc
    obtain ⟨cv, w', E', h1, h2, h3⟩ := app_core (ty := o.type) (bd' := .bytes (l ++ m)) hT' hE hr hH hv (q1.trans (hr.ver r e hH).symm) hi hiz hisz hiby hzc hsrc (by rw [hb, q6]; rfl) (by rw [hb]; rfl) q4 (by rw [hb]; rfl) (by rw [q6]; simp [Bd.count]) rfl rfl (fun i ys hy => by
        simp only [Bd.at, List.getElem?_append, Option.map_eq_some_iff] at hy
        obtain ⟨b, hb1, rfl⟩ := hy
        split at hb1
        ·rename_i hlt
         exact .inl ⟨by omega, by rw [hb]; simp [Bd.at, hb1]⟩
        ·rename_i hlt
         refine .inr ⟨by omega, ?_⟩
         obtain ⟨us, k1, k2, k3⟩ := hat (i - l.length) [.val (bv b)] (by rw [q8]; exact bcells_get.2 ⟨b, hb1, rfl⟩)
         rw [q4] at k1 k3
         exact ⟨us, k1, k2, fun j u hu => by rw [q6]; exact k3 j u hu⟩) (fun i hi => by rw [hb]; simp only [Bd.at]; rw [List.getElem?_eq_getElem (by omega)]; exact ⟨_, rfl⟩) (by rw [q6]; exact q9) (by rw [q6]; exact mul_bound q9 hbp)
    refine ⟨cv, w', E', .inl (hex h1), ?_, h3⟩
    rw [q6] at h2; exact h2
   ·rename_i sz' α f d l hb
    obtain ⟨Ψ, s2, els, h, hels⟩ := elsZ_sound (ty := o.type) htb hT' hi hiz hisz hiby hzc h
    obtain ⟨β, f', d', m, h⟩ := h
    refine ⟨_, _, _, h, fun q E H w ρv hr hh hops => ?_⟩
    obtain ⟨q1, q2, q3, q4, q5, q6, q7, q8, q9, hbp⟩ := q
    obtain ⟨hv, hx⟩ := hops2 hops
    rw [hs, q3, q5] at hv
    have hH := hh r e he
    obtain ⟨news, hsrc, hat⟩ := hels q2 E H w _ hr hh hx (q7.imp id fun h => q4.trans h.symm)
    rw [q4] at hat
    have hml : m.length = l.length + els.length := by have := congrArg List.length q8; simpa using this.symm
    have hmap : ∀ (i : Nat) b, m[i]? = some b → (l.map f ++ els)[i]? = some (f' b) := fun i b hb => by rw [q8]; simp [hb]
    rw [hml] at q9 ⊢
    obtain ⟨cv, w', E', h1, h2, h3⟩ := app_core (ty := o.type) (bd' := .row sz' f' d' m) hT' hE hr hH hv (q1.trans (hr.ver r e hH).symm) hi hiz hisz hiby hzc hsrc (by rw [hb, q6]; rfl) (by rw [hb]; rfl) q4 (by rw [hb]; rfl) (by rw [q6]; simp only [Bd.count]; exact hml) rfl rfl (fun i ys hy => by
        simp only [Bd.at, Option.map_eq_some_iff] at hy
        obtain ⟨b, hb1, rfl⟩ := hy
        have hb2 := hmap i b hb1
        rw [List.getElem?_append] at hb2
        split at hb2
        ·rename_i hlt
         rw [List.length_map] at hlt
         exact .inl ⟨by omega, by rw [hb]; simpa [Bd.at] using hb2⟩
        ·rename_i hlt
         rw [List.length_map] at hlt hb2
         refine .inr ⟨by omega, ?_⟩
         obtain ⟨us, k1, k2, k3⟩ := hat (i - l.length) (f' b) hb2
         exact ⟨us, k1, k2, fun j u hu => by rw [q6]; exact k3 j u hu⟩) (fun i hi => by rw [hb]; simp only [Bd.at]; rw [List.getElem?_eq_getElem (by omega)]; exact ⟨_, rfl⟩) (by rw [q6]; exact q9) (by rw [q6]; exact mul_bound q9 hbp)
    refine ⟨cv, w', E', .inl (hex h1), ?_, h3⟩
    rw [q6] at h2; exact h2
   ·exact h.elim
  ·rename_i hs
   split at h
   ·exact h.elim
   rename_i d hd
   split at h
   ·exact h.elim
   rename_i e he
   -- the row that is begun: nothing, without a block
   have start : ∀ {E : Env} {H : List Ent} {w : World} {ρv : Operand → Value} (bd0 : Bd) (sz : Nat), HR E w H → H[p + d]? = some e → rep E w (ev s) (ρv s) → bd0.count = 0 →
       rep (E.setAbs (p + d) (e.ver + 1)) w (.own (p + d) (e.ver + 1) sz 0 0) (ρv s) ∧ Out E (E.setAbs (p + d) (e.ver + 1)) w w H [(p + d, ⟨e.ver + 1, bd0⟩)] ∧ (E.setAbs (p + d) (e.ver + 1)).ver (p + d) = e.ver + 1 := by
    intro E H w ρv bd0 sz hr hH hv h0
    rw [hs] at hv
    refine ⟨?_, Out.absent hr hH (by omega) h0, by simp [Env.setAbs]⟩
    rw [rep_val hv, rep]
    exact ⟨by simp [Env.setAbs], fun _ => ⟨none, 0, rfl, Nat.le_refl _, Nat.zero_le _, fun _ => rfl, .inl rfl⟩⟩
   split at h
   ·obtain ⟨Ψ, s2, els, h, hels⟩ := elsZ_sound (ty := o.type) htb hT' hi hiz hisz hiby hzc h
    obtain ⟨m, h⟩ := h
    refine ⟨_, _, _, h, fun q E H w ρv hr hh hops => ?_⟩
    obtain ⟨q2, q4, q7, q8, q9, hbp⟩ := q
    obtain ⟨hv, hx⟩ := hops2 hops
    have hH := hh _ e he
    have hlt := (List.getElem?_eq_some_iff.1 hH).1
    obtain ⟨news, hsrc, hat⟩ := hels q2 E H w _ hr hh hx (.inr (q4.trans q7.symm))
    have hlen : els.length = m.length := by rw [q8]; simp [bcells]
    rw [hlen] at hsrc
    obtain ⟨hv1, o1, hver1⟩ := start (.bytes []) 1 hr hH hv rfl
    have hH1 : (updH H [(p + d, ⟨e.ver + 1, .bytes []⟩)])[p + d]? = some ⟨e.ver + 1, .bytes []⟩ := by
     simp only [updH, setL_eq]; exact List.getElem?_set_self hlt
    obtain ⟨cv, w', E', h1, h2, h3⟩ := app_core (ty := o.type) (bd' := .bytes m) hT' hE o1.hr hH1 hv1 hver1.symm hi hiz hisz hiby hzc hsrc rfl rfl q4 rfl (by simp [Bd.count]) rfl rfl (fun i ys hy => by
        simp only [Bd.at, Option.map_eq_some_iff] at hy
        obtain ⟨b, hb1, rfl⟩ := hy
        refine .inr ⟨Nat.zero_le _, ?_⟩
        obtain ⟨us, k1, k2, k3⟩ := hat i [.val (bv b)] (by rw [q8]; exact bcells_get.2 ⟨b, hb1, rfl⟩)
        rw [q4] at k1 k3
        exact ⟨us, k1, reps_ext o1.ext _ _ k2, fun j u hu => by rw [Nat.sub_zero]; exact k3 j u hu⟩) (fun i hi => absurd hi (Nat.not_lt_zero i)) (by rw [Nat.zero_add]; exact q9) (by rw [Nat.zero_add]; exact mul_bound q9 hbp)
    refine ⟨cv, w', E', .inl (hex h1), ?_, o1.trans h3⟩
    rw [Nat.zero_add] at h2; exact h2
   ·obtain ⟨Ψ, s2, els, h, hels⟩ := elsZ_sound (ty := o.type) htb hT' hi hiz hisz hiby hzc h
    obtain ⟨β, f', d', m, h⟩ := h
    refine ⟨_, _, _, h, fun q E H w ρv hr hh hops => ?_⟩
    obtain ⟨q2, q7, q8, q9, hbp⟩ := q
    obtain ⟨hv, hx⟩ := hops2 hops
    have hH := hh _ e he
    have hlt := (List.getElem?_eq_some_iff.1 hH).1
    obtain ⟨news, hsrc, hat⟩ := hels q2 E H w _ hr hh hx (q7.imp id Eq.symm)
    have hlen : els.length = m.length := by rw [q8]; simp
    rw [hlen] at hsrc
    obtain ⟨hv1, o1, hver1⟩ := start (.row ei.sz f' d' []) ei.sz hr hH hv rfl
    have hH1 : (updH H [(p + d, ⟨e.ver + 1, .row ei.sz f' d' []⟩)])[p + d]? = some ⟨e.ver + 1, .row ei.sz f' d' []⟩ := by
     simp only [updH, setL_eq]; exact List.getElem?_set_self hlt
    obtain ⟨cv, w', E', h1, h2, h3⟩ := app_core (ty := o.type) (bd' := .row ei.sz f' d' m) hT' hE o1.hr hH1 hv1 hver1.symm hi hiz hisz hiby hzc hsrc rfl rfl rfl rfl (by simp [Bd.count]) rfl rfl (fun i ys hy => by
        simp only [Bd.at, Option.map_eq_some_iff] at hy
        obtain ⟨b, hb1, rfl⟩ := hy
        refine .inr ⟨Nat.zero_le _, ?_⟩
        obtain ⟨us, k1, k2, k3⟩ := hat i (f' b) (by rw [q8]; simp [hb1])
        exact ⟨us, k1, reps_ext o1.ext _ _ k2, fun j u hu => by rw [Nat.sub_zero]; exact k3 j u hu⟩) (fun i hi => absurd hi (Nat.not_lt_zero i)) (by rw [Nat.zero_add]; exact q9) (by rw [Nat.zero_add]; exact mul_bound q9 hbp)
    refine ⟨cv, w', E', .inl (hex h1), ?_, o1.trans h3⟩
    rw [Nat.zero_add] at h2; exact h2
  ·exact h.elim
/-! literals -/
theorem fold_put {off : Nat} : ∀ (vs : List Value) (k : Nat) (cells : Array Value), off + k + vs.length ≤ cells.size →
    ((vs.zipIdx k).foldl (fun cs (c, j) => cs.setIfInBounds (off + j) c) cells).toList = cells.toList.take (off + k) ++ vs ++ cells.toList.drop (off + k + vs.length)
 | [], k, cells, h => by simp
 | v :: vs, k, cells, h => by
  simp only [List.length_cons] at h
  simp only [List.zipIdx_cons, List.foldl_cons]
  rw [fold_put vs (k + 1) _ (by simp; omega)]
  apply List.ext_getElem?
  intro i
  have hs : cells.toList.length = cells.size := by simp
  simp only [Array.toList_setIfInBounds, List.getElem?_append, List.length_append, List.length_take, List.length_set, List.getElem?_take, List.getElem?_drop, List.getElem?_set, List.length_cons, Array.length_toList]
  by_cases hi : i < off + k
  ·have a1 : i < min (off + (k + 1)) cells.size := by omega
   have a2 : i < min (off + k) cells.size := by omega
   have a3 : i < min (off + (k + 1)) cells.size + vs.length := by omega
   have a4 : i < min (off + k) cells.size + (vs.length + 1) := by omega
   have a5 : off + k ≠ i := by omega
   have a6 : i < off + (k + 1) := by omega
   simp [a1, a2, a3, a4, a5, a6, hi]
  ·by_cases hio : i = off + k
   ·subst hio
    have a1 : off + k < min (off + (k + 1)) cells.size := by omega
    have a3 : off + k < min (off + (k + 1)) cells.size + vs.length := by omega
    have a2 : ¬ off + k < min (off + k) cells.size := by omega
    have a4 : off + k < min (off + k) cells.size + (vs.length + 1) := by omega
    have a5 : off + k < cells.size := by omega
    have a6 : off + k - min (off + k) cells.size = 0 := by omega
    have a7 : off + k < off + (k + 1) := by omega
    simp [a1, a2, a3, a4, a5, a6, a7]
   ·have e1 : min (off + (k + 1)) cells.size = off + k + 1 := by omega
    have e2 : min (off + k) cells.size = off + k := by omega
    rw [e1, e2]
    by_cases hin : i < off + k + 1 + vs.length
    ·have a1 : ¬ i < off + k + 1 := by omega
     have a2 : ¬ i < off + k := by omega
     have a4 : i < off + k + (vs.length + 1) := by omega
     have a5 : i - (off + k) = (i - (off + k + 1)) + 1 := by omega
     simp only [hin, a1, a2, a4, if_true, if_false, a5, List.getElem?_cons_succ]
    ·have a4 : ¬ i < off + k + (vs.length + 1) := by omega
     have a5 : ¬ off + k = off + (k + 1) + vs.length + (i - (off + k + 1 + vs.length)) := by omega
     simp only [hin, a4, if_false, a5]
     congr 1; omega
def fillA (hg : Nat → Option Ent) (place : Nat → Option (Nat × Nat)) : List (Nat × AV) → List AV → (Prop → List AV → Prop) → Prop
 | [], zs, K => K True zs
 | (k, x) :: rest, zs, K => match place k with
  | none => False
  | some (off, sz) => fillA hg place rest (putA zs off (flatA x)) fun Φ l => K ((flatA x).length = sz ∧ onesA hg (flatA x) ∧ off + sz ≤ zs.length ∧ Φ) l
theorem fillA_sound {place : Nat → Option (Nat × Nat)} : ∀ {parts : List (Nat × Operand)} {zs : List AV} {K : Prop → List AV → Prop}, fillA hg place (parts.map fun p => (p.1, ev p.2)) zs K →
    ∃ Φ l, K Φ l ∧ (Φ → ∀ (E : Env) (H : List Ent) (w : World) (ρv : Operand → Value) (cells : Array Value), HR E w H → (∀ (r : Nat) (e : Ent), hg r = some e → H[r]? = some e) → (∀ x ∈ parts.map (·.2), rep E w (ev x) (ρv x)) → reps E w zs cells.toList →
     ∃ cells', Instr.fill place cells (parts.map fun p => (p.1, ρv p.2)) = some cells' ∧ reps E w l cells'.toList)
 | [], zs, K, h => ⟨_, _, h, fun _ E H w ρv cells _ _ _ hz => ⟨cells, rfl, hz⟩⟩
 | (k, x) :: rest, zs, K, h => by
  simp only [List.map_cons, fillA] at h
  split at h
  ·exact h.elim
  rename_i off sz hp
  obtain ⟨Φ, l, h, hl⟩ := fillA_sound h
  refine ⟨_, l, h, fun p E H w ρv cells hr hh hops hz => ?_⟩
  obtain ⟨p1, p2, p3, p4⟩ := p
  obtain ⟨f1, f2⟩ := flat_rep p2 hr hh (hops x (by simp))
  have fl := (reps_get f1).1
  have zl := (reps_get hz).1
  simp only [Array.length_toList] at fl zl
  have hput := reps_put off hz f1
  have hfold := fold_put (off := off) (ρv x).cells.toList 0 cells (by simp; omega)
  have e : (ρv x).cells.zipIdx.foldl (fun cs (c, j) => cs.setIfInBounds (off + j) c) cells = ((ρv x).cells.toList.zipIdx 0).foldl (fun cs (c, j) => cs.setIfInBounds (off + j) c) cells := by
   rw [← Array.foldl_toList, Array.toList_zipIdx]
  obtain ⟨cells', h5, h6⟩ := hl p4 E H w ρv (((ρv x).cells.toList.zipIdx 0).foldl (fun cs (c, j) => cs.setIfInBounds (off + j) c) cells) hr hh (fun y hy => hops y (by simp only [List.map_cons, List.mem_cons]; exact .inr hy)) (by
   rw [hfold, Nat.add_zero, List.append_assoc]; exact hput)
  refine ⟨cells', ?_, h6⟩
  simp only [List.map_cons, Instr.fill, hp]
  rw [if_neg (by simp; omega), e]
  exact h5
def sizesOf (tb : TypeId → Option TI) : List (Nat × TypeId) → Option (List (Nat × Nat))
 | [] => some []
 | (off, ft) :: fs => match tb ft with
  | none => none
  | some fi => match sizesOf tb fs with
   | none => none
   | some l => some ((off, fi.sz) :: l)
def getN {α : Type} : List α → Nat → Option α
 | [], _ => none
 | x :: _, 0 => some x
 | _ :: l, n + 1 => getN l n
theorem getN_eq {α : Type} : ∀ (l : List α) (i : Nat), getN l i = l[i]?
 | [], _ => rfl
 | _ :: _, 0 => rfl
 | _ :: l, i + 1 => by simpa [getN] using getN_eq l i
theorem sizesOf_sound {tb : TypeId → Option TI} (htb : TbOk P tb) : ∀ {flds : List Field} {l : List (Nat × Nat)}, sizesOf tb (flds.map fun f => (f.offset, f.type)) = some l → flds.mapM (fun f => (P.info? f.type).map fun i => (f.offset, i.size)) = some l
 | [], l, h => by simp [sizesOf] at h; subst h; rfl
 | f :: flds, l, h => by
  simp only [List.map_cons, sizesOf] at h
  split at h
  ·cases h
  rename_i fi hfi
  split at h
  ·cases h
  rename_i l' hl'
  cases h
  obtain ⟨z, hz, _⟩ := (htb _ _ hfi).info
  obtain ⟨i, hi, h1, h2, h3⟩ := info_parts hz
  simp [List.mapM_cons, hi, h2, sizesOf_sound htb hl']
def buildK (tb : TypeId → Option TI) (hg : Nat → Option Ent) (T : TypeId) (parts : List (Nat × AV)) (K : KF) : Prop := match tb T with
 | none => False
 | some ti => match ti.u with
  | .struct fs => match sizesOf tb fs with
   | none => False
   | some pl => fillA hg (getN pl) parts (ti.zero.map .val) fun Φ l => K Φ (.agg l) []
  | .array _ El => match tb El with
   | none => False
   | some ei => fillA hg (fun i => some (i * ei.sz, ei.sz)) parts (ti.zero.map .val) fun Φ l => K Φ (.agg l) []
  | _ => False
theorem build_sound {tb : TypeId → Option TI} (htb : TbOk P tb) {T : TypeId} {parts : Array (Nat × Operand)} (ho : o.op = .build T parts) {K : KF} (h : buildK tb hg T (parts.toList.map fun p => (p.1, ev p.2)) K) : ∃ Φ v us, K Φ v us ∧ Snd P o ev hg Φ v us := by
 unfold buildK at h
 split at h
 ·exact h.elim
 rename_i ti hti
 have ht := htb T ti hti
 obtain ⟨z, hz, hzc⟩ := ht.info
 obtain ⟨i, hi, h1, h2, h3⟩ := info_parts hz
 have hT := ht.u
 have fin : ∀ {place : Nat → Option (Nat × Nat)}, (fillA hg place (parts.toList.map fun p => (p.1, ev p.2)) (ti.zero.map .val) fun Φ l => K Φ (.agg l) []) →
     (∀ (w : World) (ps : Array (Nat × Value)) (cells : Array Value), Instr.fill place z.cells ps.toList = some cells → (Instr.build T ps).run P w = .ok (.agg cells) w) → ∃ Φ v us, K Φ v us ∧ Snd P o ev hg Φ v us := by
  intro place h hrun
  obtain ⟨Φ, l, h, hl⟩ := fillA_sound h
  refine ⟨_, _, _, h, Snd.pure fun p E H w ρv hr hh hops => ?_⟩
  obtain ⟨cells', h5, h6⟩ := hl p E H w ρv z.cells hr hh (by rw [ho] at hops; exact hops) (by rw [hzc]; exact reps_vals _)
  refine ⟨.agg cells', ?_, by rw [rep]; exact ⟨cells'.toList, by simp, h6⟩⟩
  have h7 := hrun w (parts.map fun (i, x) => (i, ρv x)) cells' (by rw [← h5]; congr 1; simp)
  unfold execOp
  simp only [ho, Sem.run_bind, h7, Result.andThen_ok, Sem.run_pure]
 split at h
 ·rename_i fs hu
  rw [hu] at hT
  obtain ⟨flds, hf1, hf2⟩ := hT
  split at h
  ·exact h.elim
  rename_i pl hpl
  rw [← hf2] at hpl
  have hpl := sizesOf_sound htb hpl
  refine fin h fun w ps cells hfill => run_build w T ps cells ?_
  unfold Program.built
  simp only [hi, hf1, h1, hpl]
  have e : (fun x => pl.toArray[x]?) = getN pl := funext fun x => by rw [getN_eq]; simp
  rw [e]; exact hfill
 ·rename_i n El hu
  rw [hu] at hT
  have hT' : P.underlying T = some (.array n El) := hT
  split at h
  ·exact h.elim
  rename_i ei hei
  obtain ⟨z2, hz2, _⟩ := (htb El ei hei).info
  obtain ⟨i2, hi2, h4, h5, h6⟩ := info_parts hz2
  refine fin h fun w ps cells hfill => run_build w T ps cells ?_
  unfold Program.built
  simp only [hi, hT', h1, hi2, h5]
  exact hfill
 ·exact h.elim
end
end Go.Proofs.YtmjpbmcbcppkfaaGreatDoor

/-! Abstract values: new slices, conversions of bytes, and all operations together ('stepK'). Conditions: what 'TIok' says of the types. -/
namespace Go.Proofs.YtmjpbmcbcppkfaaGreatDoor
set_option linter.unusedVariables false
set_option linter.unusedSimpArgs false
open Go.RowKit
section
variable {P : Program} {o : Oper} {ev : Operand → AV} {hg : Nat → Option Ent}
def rowK (hg : Nat → Option Ent) (p : Nat) (o : Oper) (n : Nat) (bd : Bd) (K : KF) : Prop := match o.dst with
 | none => False
 | some d => match hg (p + d) with
  | none => False
  | some e => K True (.own (p + d) (e.ver + 1) bd.sz 0 n) [(p + d, ⟨e.ver + 1, bd⟩)]
theorem row_sound {p n : Nat} {bd : Bd} {K : KF} {Ψ : Prop} (h : rowK hg p o n bd fun Φ v us => K (Ψ ∧ Φ) v us) (hrun : Ψ → bd.count = n ∧ ∀ (E : Env) (H : List Ent) (w : World) (ρv : Operand → Value), HR E w H → (∀ (r : Nat) (e : Ent), hg r = some e → H[r]? = some e) → (∀ x ∈ opnds o.op, rep E w (ev x) (ρv x)) →
    ∃ (cs : Array Value) (T : TypeId) (c : Nat), (execOp ρv o).run P w = .ok (.value (.slice (some ⟨w.heap.size, 0, none⟩) n c)) (w.alloc (.cells cs T)) ∧ n ≤ c ∧ c ≤ maxLen ∧ c * bd.sz ≤ cs.size ∧
     ∀ i ys, bd.at i = some ys → ∃ us : List Value, us.length = bd.sz ∧ reps E w ys us ∧ ∀ j u, us[j]? = some u → cs[i * bd.sz + j]? = some u) (hnl : bd.lpB = false := by rfl) : ∃ Φ v us, K Φ v us ∧ Snd P o ev hg Φ v us := by
 unfold rowK at h
 split at h
 ·exact h.elim
 rename_i d hd
 split at h
 ·exact h.elim
 rename_i e he
 refine ⟨_, _, _, h, fun p' E H w ρv hr hh hops => ?_⟩
 obtain ⟨hcount, hrun⟩ := hrun p'.1
 obtain ⟨cs, T, c, h1, h2, h3, h4, h5⟩ := hrun E H w ρv hr hh hops
 have O := Out.new (T := T) (cs := cs.toList) (bd' := bd) hr (hh _ _ he) (by rw [hcount]; simp; exact Nat.le_trans (Nat.mul_le_mul_right _ h2) h4) (fun i ys hy => by
  obtain ⟨us, k1, k2, k3⟩ := h5 i ys hy
  exact ⟨us, k1, k2, fun j u hu => by simpa using k3 j u hu⟩) hnl
 have e1 : cs.toList.toArray = cs := by simp
 rw [e1] at O
 refine ⟨_, _, _, .inl h1, ?_, O⟩
 rw [rep, Env.set_ver, Env.set_ρ]
 refine ⟨Nat.le_refl _, fun _ => ⟨_, c, rfl, h2, h3, (fun h => by cases h), .inr ⟨Env.set_abs _ _ _ _, by rw [Nat.zero_mul], _, _, _, heap_alloc_new w _, ?_⟩⟩⟩
 rw [Nat.zero_add]; exact h4
def okBytes : List Int → Prop
 | [] => True
 | n :: l => (0 ≤ n ∧ n ≤ 255) ∧ okBytes l
theorem okBytes_sound : ∀ {l : List Int}, okBytes l → ∀ n ∈ l, 0 ≤ n ∧ n ≤ 255
 | n :: l, h, m, hm => by
  rcases List.mem_cons.1 hm with rfl | hm
  ·exact h.1
  ·exact okBytes_sound h.2 m hm
def litK (tb : TypeId → Option TI) (hg : Nat → Option Ent) (p : Nat) (o : Oper) (ei : TI) (len : Nat) (cells : List AV) (Ψ : Prop) (K : KF) : Prop := match ei.u with
 | .int .u8 => match intsOf .u8 cells with
  | some ns => rowK hg p o len (.bytes (ns.map fun n => UInt8.ofNat n.toNat)) fun Φ v us => K ((Ψ ∧ okBytes ns ∧ ns.length = len ∧ ei.sz = 1) ∧ Φ) v us
  | none => False
 | .int k => match intsOf k cells with
  | some ns => rowK hg p o len (.row 1 (intF k) 0 ns) fun Φ v us => K ((Ψ ∧ ns.length = len ∧ ei.sz = 1) ∧ Φ) v us
  | none => False
 | _ => rowK hg p o len (.row ei.sz (fun i => takeL (dropL cells (i * ei.sz)) ei.sz) 0 (List.range len)) fun Φ v us => K ((Ψ ∧ cells.length = len * ei.sz) ∧ Φ) v us
def zerosA (n : Nat) (zs : List AV) : List AV := match n with
 | 0 => []
 | n + 1 => zs ++ zerosA n zs
def buildSliceK (tb : TypeId → Option TI) (hg : Nat → Option Ent) (p : Nat) (o : Oper) (T : TypeId) (len : Nat) (parts : List (Nat × AV)) (K : KF) : Prop := match tb T with
 | none => False
 | some ti => match ti.u with
  | .slice El => match tb El with
   | none => False
   | some ei => fillA hg (fun i => some (i * ei.sz, ei.sz)) parts (zerosA len (ei.zero.map .val)) fun Φ cells => litK tb hg p o ei len cells (Φ ∧ len * ei.sz ≤ 16777216 ∧ len ≤ 16777216) K
  | _ => False
theorem zeros_get (z : Array Value) (sz : Nat) (hz : z.size = sz) : ∀ (n : Nat), ((Array.range (n * sz)).map (z[· % z.size]!)).toList = (List.replicate n z.toList).flatten
 | 0 => by simp
 | n + 1 => by
  have ih := zeros_get z sz hz n
  rw [List.replicate_succ', List.flatten_append, ← ih]
  apply List.ext_getElem?
  intro i
  simp only [Array.toList_map, Array.toList_range, List.getElem?_map, List.getElem?_append, List.length_map, List.length_range, List.flatten_cons, List.flatten_nil, List.append_nil]
  by_cases hi : i < n * sz
  ·have h2 : i < (n + 1) * sz := by rw [Nat.add_mul]; omega
   simp [hi, h2]
  ·rw [if_neg hi]
   by_cases h2 : i < (n + 1) * sz
   ·have h3 : i - n * sz < sz := by rw [Nat.add_mul, Nat.one_mul] at h2; omega
    have h4 : i % sz = i - n * sz := by
     have : i = (i - n * sz) + sz * n := by rw [Nat.mul_comm sz n]; omega
     rw [this, Nat.add_mul_mod_self_left, Nat.mod_eq_of_lt (by omega)]
     rw [Nat.mul_comm sz n]; omega
    rw [List.getElem?_range h2]
    simp only [Option.map_some, hz, h4]
    rw [getElem!_pos z _ (by omega)]
    simp [hz, h3]
   ·have h3 : ¬ i - n * sz < sz := by rw [Nat.add_mul, Nat.one_mul] at h2; omega
    rw [List.getElem?_eq_none (by simp; omega), List.getElem?_eq_none (by simp [hz]; omega)]
    rfl
theorem reps_zeros {E : Env} {w : World} {zs : List AV} {vs : List Value} (h : reps E w zs vs) : ∀ n, reps E w (zerosA n zs) (List.replicate n vs).flatten
 | 0 => by simp [zerosA, reps]
 | n + 1 => by
  simp only [zerosA, List.replicate_succ, List.flatten_cons]
  exact reps_append h (reps_zeros h n)
theorem lit_sound {tb : TypeId → Option TI} {p len : Nat} {El : TypeId} {ei : TI} {cells : List AV} {Ψ : Prop} {K : KF} (h : litK tb hg p o ei len cells Ψ K) (hrun : Ψ → ∀ (E : Env) (H : List Ent) (w : World) (ρv : Operand → Value), HR E w H → (∀ (r : Nat) (e : Ent), hg r = some e → H[r]? = some e) → (∀ x ∈ opnds o.op, rep E w (ev x) (ρv x)) →
    ∃ (cs : Array Value) (T : TypeId) (c : Nat), (execOp ρv o).run P w = .ok (.value (.slice (some ⟨w.heap.size, 0, none⟩) len c)) (w.alloc (.cells cs T)) ∧ len ≤ c ∧ c ≤ maxLen ∧ c * ei.sz ≤ cs.size ∧ ∀ (i : Nat) (x : AV), cells[i]? = some x → ∃ u, cs[i]? = some u ∧ rep E w x u) : ∃ Φ v us, K Φ v us ∧ Snd P o ev hg Φ v us := by
 unfold litK at h
 split at h
 ·split at h
  rotate_left
  ·exact h.elim
  rename_i ns hns
  refine row_sound h fun q => ?_
  obtain ⟨q1, q2, q3, q4⟩ := q
  refine ⟨by simpa [Bd.count] using q3, fun E H w ρv hr hh hops => ?_⟩
  obtain ⟨cs, T, c, h1, h2, h3, h4, h5⟩ := hrun q1 E H w ρv hr hh hops
  refine ⟨cs, T, c, h1, h2, h3, by rw [q4] at h4; exact h4, fun i ys hy => ?_⟩
  simp only [Bd.at, List.getElem?_map, Option.map_eq_some_iff] at hy
  obtain ⟨b, ⟨n, hn, rfl⟩, rfl⟩ := hy
  have hcell : cells[i]? = some (.val (.int .u8 n)) := by rw [intsOf_sound hns]; simp [hn]
  obtain ⟨u, hu, hru⟩ := h5 i _ hcell
  have hb := okBytes_sound q2 n (List.mem_of_getElem? hn)
  have hu2 : u = bv (UInt8.ofNat n.toNat) := by
   rw [rep_val hru]; unfold bv
   congr 1
   simp; omega
  refine ⟨[u], rfl, by simp only [reps, rep]; exact ⟨_, _, rfl, hu2, rfl⟩, fun j v hv => ?_⟩
  cases j with
  | zero => simp at hv; subst hv; simp only [Bd.sz, Nat.mul_one, Nat.add_zero]; exact hu
  | succ j => simp at hv
 ·rename_i k _ hk
  split at h
  rotate_left
  ·exact h.elim
  rename_i ns hns
  refine row_sound h fun q => ?_
  obtain ⟨q1, q3, q4⟩ := q
  refine ⟨by simpa [Bd.count] using q3, fun E H w ρv hr hh hops => ?_⟩
  obtain ⟨cs, T, c, h1, h2, h3, h4, h5⟩ := hrun q1 E H w ρv hr hh hops
  refine ⟨cs, T, c, h1, h2, h3, by rw [q4] at h4; exact h4, fun i ys hy => ?_⟩
  simp only [Bd.at, Option.map_eq_some_iff] at hy
  obtain ⟨n, hn, rfl⟩ := hy
  have hcell : cells[i]? = some (.val (.int k n)) := by rw [intsOf_sound hns]; simp [hn]
  obtain ⟨u, hu, hru⟩ := h5 i _ hcell
  refine ⟨[u], rfl, by simp only [intF, reps]; exact ⟨_, _, rfl, hru, rfl⟩, fun j v hv => ?_⟩
  cases j with
  | zero => simp at hv; subst hv; simp only [Bd.sz, Nat.mul_one, Nat.add_zero]; exact hu
  | succ j => simp at hv
 ·refine row_sound h fun q => ?_
  obtain ⟨q1, q3⟩ := q
  refine ⟨by simp [Bd.count], fun E H w ρv hr hh hops => ?_⟩
  obtain ⟨cs, T, c, h1, h2, h3, h4, h5⟩ := hrun q1 E H w ρv hr hh hops
  refine ⟨cs, T, c, h1, h2, h3, h4, fun i ys hy => ?_⟩
  simp only [Bd.at, Option.map_eq_some_iff] at hy
  obtain ⟨i', hi', rfl⟩ := hy
  have hlt : i < len := by have := (List.getElem?_eq_some_iff.1 hi').1; simpa using this
  rw [List.getElem?_range hlt] at hi'
  cases hi'
  have hle : (i + 1) * ei.sz ≤ len * ei.sz := Nat.mul_le_mul_right _ hlt
  rw [Nat.add_mul, Nat.one_mul] at hle
  have hlen4 := Nat.le_trans (Nat.mul_le_mul_right ei.sz h2) h4
  rw [takeL_eq, dropL_eq]
  refine ⟨(cs.toList.drop (i * ei.sz)).take ei.sz, by simp [Bd.sz]; omega, reps_of (by simp; omega) (fun j x u hx hu => ?_), fun j u hu => ?_⟩
  ·rw [List.getElem?_take] at hx hu
   split at hx
   ·rename_i hj
    rw [if_pos hj] at hu
    rw [List.getElem?_drop] at hx hu
    obtain ⟨u', hu', hru⟩ := h5 _ _ hx
    have : cs[i * ei.sz + j]? = some u := by simpa using hu
    rw [this] at hu'; cases hu'; exact hru
   ·cases hx
  ·rw [List.getElem?_take] at hu
   split at hu
   ·rw [List.getElem?_drop] at hu; simpa [Bd.sz] using hu
   ·cases hu
theorem buildSlice_sound {tb : TypeId → Option TI} (htb : TbOk P tb) {p : Nat} {T : TypeId} {len : Nat} {parts : Array (Nat × Operand)} (ho : o.op = .buildSlice T len parts) {K : KF} (h : buildSliceK tb hg p o T len (parts.toList.map fun q => (q.1, ev q.2)) K) : ∃ Φ v us, K Φ v us ∧ Snd P o ev hg Φ v us := by
 unfold buildSliceK at h
 split at h
 ·exact h.elim
 rename_i ti hti
 have hT := (htb T ti hti).u
 split at h
 rotate_left
 ·exact h.elim
 rename_i El hu
 rw [hu] at hT
 have hT' : P.underlying T = some (.slice El) := hT
 split at h
 ·exact h.elim
 rename_i ei hei
 have hE := htb El ei hei
 obtain ⟨z, hz, hzc⟩ := hE.info
 obtain ⟨i, hi, h1, h2, h3⟩ := info_parts hz
 have hzs : z.cells.size = ei.sz := by have := hE.zsz; rw [← hzc] at this; simpa using this
 obtain ⟨Φ, cells, h, hl⟩ := fillA_sound h
 refine lit_sound (El := El) h fun q E H w ρv hr hh hops => ?_
 obtain ⟨q1, q2, q3⟩ := q
 obtain ⟨cells', h5, h6⟩ := hl q1 E H w ρv ((Array.range (len * ei.sz)).map (z.cells[· % z.cells.size]!)) hr hh (by rw [ho] at hops; exact hops) (by
  rw [zeros_get z.cells ei.sz hzs, hzc]; exact reps_zeros (reps_vals _) len)
 have hlen := (reps_get h6).1
 have hsz : cells'.size = len * ei.sz := by
  have : ∀ (ps : List (Nat × Value)) (c c' : Array Value), Instr.fill (fun i => some (i * ei.sz, ei.sz)) c ps = some c' → c'.size = c.size := by
   intro ps
   induction ps with
   | nil => intro c c' h; simp [Instr.fill] at h; subst h; rfl
   | cons x ps ih =>
    intro c c' h
    simp only [Instr.fill] at h
    split at h
    ·cases h
    ·have h8 := ih _ _ h
     rw [h8]
     have : ∀ (l : List (Value × Nat)) (c : Array Value), (l.foldl (fun cs (c, j) => cs.setIfInBounds (x.1 * ei.sz + j) c) c).size = c.size := by
      intro l; induction l with
      | nil => intro c; rfl
      | cons y l ih => intro c; simp only [List.foldl_cons]; rw [ih]; simp
     rw [← Array.foldl_toList]; exact this _ _
  rw [this _ _ _ h5]; simp
 have e1 : (Instr.buildSlice T len (parts.map fun (i, x) => (i, ρv x))).run P w = .ok (.slice (some ⟨w.heap.size, 0, none⟩) len len) (w.alloc (.cells cells' El)) := by
  by_cases hpos : len * ei.sz = 0
  ·have h5' : Instr.fill (fun i => some (i * ei.sz, ei.sz)) (#[] : Array Value) (parts.toList.map fun q => (q.1, ρv q.2)) = some cells' := by
     have e2 : (Array.range (len * ei.sz)).map (z.cells[· % z.cells.size]!) = #[] := by rw [hpos]; simp
     rw [← e2]; exact h5
   simp [Instr.buildSlice, run_underlying hT', Go.sizeOf, typeInfo, hi, h2, hpos, newRow, Array.range_zero']
   rw [h5']
   rfl
  ·have h5' : Instr.fill (fun i => some (i * ei.sz, ei.sz)) ((Array.range (len * ei.sz)).map (z.cells[· % z.cells.size]!)) (parts.map fun (i, x) => (i, ρv x)).toList = some cells' := by
     have e3 : (parts.map fun (i, x) => (i, ρv x)).toList = parts.toList.map fun q => (q.1, ρv q.2) := by simp
     rw [e3]; exact h5
   exact run_buildSlice w T El len _ cells' i z hT' hi h1 (by rw [h2]; omega) (by rw [h2]; exact hpos) (by rw [h2]; exact h5')
 refine ⟨cells', El, len, ?_, Nat.le_refl _, ?_, by rw [hsz]; exact Nat.le_refl _, fun k x hx => ?_⟩
 ·unfold execOp
  simp only [ho, Sem.run_bind, e1, Result.andThen_ok, Sem.run_pure]
 ·unfold maxLen; omega
 ·obtain ⟨u, hu, hru⟩ := (reps_get h6).2 k x hx
  exact ⟨u, by simpa using hu, hru⟩
/-! make -/
def makeSliceK (tb : TypeId → Option TI) (hg : Nat → Option Ent) (p : Nat) (o : Oper) (T : TypeId) (x y : AV) (K : KF) : Prop := match tb T with
 | none => False
 | some ti => match ti.u with
  | .slice El => match tb El with
   | none => False
   | some ei => match x with
    | .val (.int _ n) => match y with
     | .val (.int _ c) => match ei.u with
      | .int .u8 => rowK hg p o n.toNat (.bytes (List.replicate n.toNat 0)) fun Φ v us => K ((0 ≤ n ∧ n ≤ c ∧ c * ei.bytes ≤ 140737488355328 ∧ 0 < ei.bytes ∧ ei.sz = 1 ∧ ei.zero = [.int .u8 0]) ∧ Φ) v us
      | .int k => rowK hg p o n.toNat (.row 1 (intF k) 0 (List.replicate n.toNat 0)) fun Φ v us => K ((0 ≤ n ∧ n ≤ c ∧ c * ei.bytes ≤ 140737488355328 ∧ 0 < ei.bytes ∧ ei.sz = 1 ∧ ei.zero = [.int k 0]) ∧ Φ) v us
      | _ => rowK hg p o n.toNat (.row ei.sz (fun (_ : Unit) => ei.zero.map .val) () (List.replicate n.toNat ())) fun Φ v us => K ((0 ≤ n ∧ n ≤ c ∧ c * ei.bytes ≤ 140737488355328 ∧ 0 < ei.bytes) ∧ Φ) v us
     | _ => False
    | _ => False
  | _ => False
theorem make_cells {z : Array Value} {sz n i j : Nat} (hz : z.size = sz) (hi : i < n) {u : Value} (hu : z.toList[j]? = some u) : (madeCells z (n * sz))[i * sz + j]? = some u := by
 have hj : j < sz := by have := (List.getElem?_eq_some_iff.1 hu).1; simp at this; omega
 have hle : (i + 1) * sz ≤ n * sz := Nat.mul_le_mul_right _ hi
 rw [Nat.add_mul, Nat.one_mul] at hle
 unfold madeCells
 have h1 : i * sz + j < n * sz := by omega
 have h2 : (i * sz + j) % z.size = j := by rw [hz, Nat.add_comm, Nat.add_mul_mod_self_right, Nat.mod_eq_of_lt hj]
 rw [Array.getElem?_map, Array.getElem?_range, if_pos h1]
 simp only [Option.map_some, h2]
 rw [getElem!_pos z j (by omega)]
 rw [← hu]
 simp [hz, hj]
theorem makeSlice_sound {tb : TypeId → Option TI} (htb : TbOk P tb) {p : Nat} {T : TypeId} {x y : Operand} (ho : o.op = .makeSlice T x y) {K : KF} (h : makeSliceK tb hg p o T (ev x) (ev y) K) : ∃ Φ v us, K Φ v us ∧ Snd P o ev hg Φ v us := by
 unfold makeSliceK at h
 split at h
 ·exact h.elim
 rename_i ti hti
 have hT := (htb T ti hti).u
 split at h
 rotate_left
 ·exact h.elim
 rename_i El hu
 rw [hu] at hT
 have hT' : P.underlying T = some (.slice El) := hT
 split at h
 ·exact h.elim
 rename_i ei hei
 have hE := htb El ei hei
 obtain ⟨z, hz, hzc⟩ := hE.info
 obtain ⟨i, hi, h1, h2, h3⟩ := info_parts hz
 have hzs : z.cells.size = ei.sz := by have := hE.zsz; rw [← hzc] at this; simpa using this
 split at h
 rotate_left
 ·exact h.elim
 rename_i k1 n hx
 split at h
 rotate_left
 ·exact h.elim
 rename_i k2 c hy
 have run : 0 ≤ n → n ≤ c → c * ei.bytes ≤ 140737488355328 → 0 < ei.bytes → ∀ {E : Env} {w : World} {ρv : Operand → Value}, (∀ x ∈ opnds o.op, rep E w (ev x) (ρv x)) →
     (execOp ρv o).run P w = .ok (.value (.slice (some ⟨w.heap.size, 0, none⟩) n.toNat c.toNat)) (w.alloc (.cells (madeCells z.cells (c.toNat * ei.sz)) El)) ∧ n.toNat ≤ c.toNat ∧ c.toNat ≤ maxLen := by
  intro q1 q2 q3 q4 E w ρv hops
  have hvx := hops x (by rw [ho]; simp [opnds])
  have hvy := hops y (by rw [ho]; simp [opnds])
  rw [hx] at hvx; rw [hy] at hvy
  have hb : c ≤ c * ei.bytes := by
   have : c * 1 ≤ c * (ei.bytes : Int) := Int.mul_le_mul_of_nonneg_left (by omega) (by omega)
   omega
  have hrun := run_make (P := P) w T El i z hT' hi h1 k1 k2 n c q1 q2 (by rw [h3, Int.mul_comm]; omega) (by omega)
  rw [h2] at hrun
  refine ⟨?_, by omega, by unfold maxLen; omega⟩
  unfold execOp
  simp only [ho, rep_val hvx, rep_val hvy, Sem.run_bind, hrun, Result.andThen_ok, Sem.run_pure]
 have hrep : ∀ {α : Type} {a b : α} {m i : Nat}, (List.replicate m a)[i]? = some b → i < m ∧ b = a := by
  intro α a b m i h
  rw [List.getElem?_replicate] at h
  split at h
  ·rename_i hlt; exact ⟨hlt, (Option.some.inj h).symm⟩
  ·cases h
 split at h
 ·refine row_sound h fun q => ?_
  obtain ⟨q1, q2, q3, q4, q5, q6⟩ := q
  refine ⟨by simp [Bd.count], fun E H w ρv hr hh hops => ?_⟩
  obtain ⟨g1, g2, g3⟩ := run q1 q2 q3 q4 hops
  refine ⟨_, _, _, g1, g2, g3, by rw [size_madeCells, q5]; exact Nat.le_refl _, fun i' ys hy' => ?_⟩
  simp only [Bd.at, Option.map_eq_some_iff] at hy'
  obtain ⟨b, hb, rfl⟩ := hy'
  obtain ⟨hlt, rfl⟩ := hrep hb
  refine ⟨[bv 0], rfl, by simp only [reps, rep]; exact ⟨_, _, rfl, rfl, rfl⟩, fun j u hu => ?_⟩
  have := make_cells (n := c.toNat) (i := i') (j := j) (u := u) hzs (by omega) (by rw [hzc, q6]; exact hu)
  rw [q5] at this ⊢
  exact this
 ·rename_i k _ hk
  refine row_sound h fun q => ?_
  obtain ⟨q1, q2, q3, q4, q5, q6⟩ := q
  refine ⟨by simp [Bd.count], fun E H w ρv hr hh hops => ?_⟩
  obtain ⟨g1, g2, g3⟩ := run q1 q2 q3 q4 hops
  refine ⟨_, _, _, g1, g2, g3, by rw [size_madeCells, q5]; exact Nat.le_refl _, fun i' ys hy' => ?_⟩
  simp only [Bd.at, Option.map_eq_some_iff] at hy'
  obtain ⟨b, hb, rfl⟩ := hy'
  obtain ⟨hlt, rfl⟩ := hrep hb
  refine ⟨[.int k 0], rfl, by simp only [intF, reps, rep]; exact ⟨_, _, rfl, rfl, rfl⟩, fun j u hu => ?_⟩
  have := make_cells (n := c.toNat) (i := i') (j := j) (u := u) hzs (by omega) (by rw [hzc, q6]; exact hu)
  rw [q5] at this ⊢
  exact this
 ·refine row_sound h fun q => ?_
  obtain ⟨q1, q2, q3, q4⟩ := q
  refine ⟨by simp [Bd.count], fun E H w ρv hr hh hops => ?_⟩
  obtain ⟨g1, g2, g3⟩ := run q1 q2 q3 q4 hops
  refine ⟨_, _, _, g1, g2, g3, by rw [size_madeCells]; exact Nat.le_refl _, fun i' ys hy' => ?_⟩
  simp only [Bd.at, Option.map_eq_some_iff] at hy'
  obtain ⟨b, hb, rfl⟩ := hy'
  obtain ⟨hlt, rfl⟩ := hrep hb
  refine ⟨ei.zero, hE.zsz, reps_vals _, fun j u hu => ?_⟩
  exact make_cells (n := c.toNat) (i := i') (j := j) (u := u) hzs (by omega) (by rw [hzc]; exact hu)
/-! min, max -/
theorem min2_sound {mx : Bool} {x y : Operand} {ts : Array TypeId} (ho : o.op = .call { callee := .builtin (if mx then .max else .min), args := #[x, y], argTypes := ts }) {K : KF} (h : min2K mx (ev x) (ev y) K) : ∃ Φ v us, K Φ v us ∧ Snd P o ev hg Φ v us := by
 unfold min2K at h
 split at h
 rotate_left
 ·exact h.elim
 rename_i k a hx
 split at h
 rotate_left
 ·exact h.elim
 rename_i k' b hy
 refine ⟨_, _, _, h, Snd.pure fun p E H w ρv hr hh hops => ?_⟩
 have hvx := hops x (by rw [ho]; simp [opnds])
 have hvy := hops y (by rw [ho]; simp [opnds])
 rw [hx] at hvx; rw [hy] at hvy
 refine ⟨_, ?_, by rw [rep]⟩
 unfold execOp
 cases mx
 ·simp only [ho, Bool.false_eq_true, if_false, resolve, invoke, builtin, Sem.run_bind, Sem.run_pure, Result.andThen_ok, List.map_toArray, List.map_cons, List.map_nil, rep_val hvx, rep_val hvy]
  have e : (if b < a then b else a) = min a b := by simp only [Int.min_def]; split <;> split <;> omega
  simp [Builtin.min_, Builtin.min2, e]
 ·simp only [ho, if_true, resolve, invoke, builtin, Sem.run_bind, Sem.run_pure, Result.andThen_ok, List.map_toArray, List.map_cons, List.map_nil, rep_val hvx, rep_val hvy]
  have e : (if b > a then b else a) = max a b := by simp only [Int.max_def]; split <;> split <;> omega
  simp [Builtin.max_, Builtin.max2, e]
end
end Go.Proofs.YtmjpbmcbcppkfaaGreatDoor

/-! Abstract values: conversions of bytes, and all operations together ('stepK'). Conditions: what 'TIok' says of the types. -/
namespace Go.Proofs.YtmjpbmcbcppkfaaGreatDoor
set_option linter.unusedVariables false
set_option linter.unusedSimpArgs false
open Go.RowKit
section
variable {P : Program} {o : Oper} {ev : Operand → AV} {hg : Nat → Option Ent}
theorem bs_of_rep {E : Env} {w : World} {z : Nat} {l : List UInt8} {v : Value} (h : rep E w (.bs z l) v) : BS w v l := by
 rw [rep] at h
 obtain ⟨a, n, c, rfl, rfl, h1, h2, h3, h4⟩ := h
 refine ⟨a, _, c, rfl, by simp, h1, h2, h3, fun ad had i u hu => ?_⟩
 simp only [bvs, List.getElem?_map, Option.map_eq_some_iff] at hu
 obtain ⟨x, hx, rfl⟩ := hu
 obtain ⟨b, o, rfl, _, hc⟩ := h4 i x hx
 cases had
 rw [Addr.add_lit]; exact hc
theorem bs_of_own {E : Env} {w : World} {H : List Ent} (hr : HR E w H) {r : Nat} {e : Ent} (he : H[r]? = some e) {ver off n : Nat} {l : List UInt8} (hb : e.bd = .bytes l) (hver : ver = e.ver) (hle : off + n ≤ l.length) {v : Value} (h : rep E w (.own r ver 1 off n) v) : BS w v ((l.drop off).take n) := by
 rw [rep] at h
 obtain ⟨a, c, rfl, h1, h2, h3, h4⟩ := h.2 (hver.trans (hr.ver r e he).symm)
 refine ⟨a, n, c, rfl, by simp; omega, h1, h2, h3, fun ad had i u hu => ?_⟩
 simp only [bvs, List.getElem?_map, Option.map_eq_some_iff, List.getElem?_take, List.getElem?_drop] at hu
 obtain ⟨x, hx, rfl⟩ := hu
 split at hx
 rotate_left
 ·cases hx
 rename_i hi
 obtain ⟨_, rfl, _⟩ := h4.resolve_left (by omega)
 cases had
 obtain ⟨cs, k1, k2, k3⟩ := hr.cells (i := off + i) he (ys := [.val (bv x)]) (by rw [hb]; simp [Bd.at, hx])
 rw [hb] at k3
 rw [Addr.add_lit, Nat.mul_one]
 have : cs[0]? = some (bv x) := by
  simp only [reps, rep] at k2
  obtain ⟨u, vs, rfl, rfl, rfl⟩ := k2
  rfl
 have := k3 0 _ this
 simpa [Bd.sz] using this
theorem bs_of_pl {E : Env} {w : World} {H : List Ent} (hr : HR E w H) {r v0 : Nat} {ls : List (List UInt8)} (he : H[r]? = some ⟨v0, .pool ls⟩) {ver i off n : Nat} (hi : i < ls.length) (hver : ver = v0) (hle : off + n ≤ (ls.getD i []).length) {v : Value} (h : rep E w (.pl r ver i off n) v) : BS w v (((ls.getD i []).drop off).take n) := by
 obtain ⟨a, c, rfl, h1, h2, h3, h4⟩ := hr.plAt he (l := ls.getD i []) (by simp [List.getD, hi]) hle hver h
 refine ⟨a, n, c, rfl, by rw [bvs_length, List.length_take, List.length_drop]; omega, h1, h2, h3, fun ad had j u hu => ?_⟩
 simp only [bvs, List.getElem?_map, Option.map_eq_some_iff] at hu
 obtain ⟨x, hx, rfl⟩ := hu
 obtain ⟨b, _, rfl, hc⟩ := h4 j x hx
 cases had
 rw [Addr.add_lit]; exact hc
theorem bs_of_ownobj {E : Env} {w : World} {H : List Ent} (hr : HR E w H) {r : Nat} {e : Ent} (he : H[r]? = some e) {ver off n : Nat} {cells : List AV} {ns : List Int} (hb : e.bd = .obj cells) (hver : ver = e.ver) (hle : off + n ≤ cells.length) (hns : takeL (dropL cells off) n = ns.map fun m => .val (.int .u8 m)) (hok : okBytes ns) {v : Value} (h : rep E w (.own r ver 1 off n) v) : BS w v (ns.map fun m => UInt8.ofNat m.toNat) := by
 rw [rep] at h
 obtain ⟨a, c, rfl, h1, h2, h3, h4⟩ := h.2 (hver.trans (hr.ver r e he).symm)
 have hlen : ns.length = n := by
  have := congrArg List.length hns
  rw [takeL_eq, dropL_eq, List.length_take, List.length_drop, List.length_map] at this
  omega
 refine ⟨a, n, c, rfl, by rw [bvs_length, List.length_map, hlen, Nat.mul_one], h1, h2, h3, fun ad had i u hu => ?_⟩
 simp only [bvs, List.getElem?_map, Option.map_eq_some_iff] at hu
 obtain ⟨x, ⟨m, hm, rfl⟩, rfl⟩ := hu
 have hi := (List.getElem?_eq_some_iff.1 hm).1
 obtain ⟨_, rfl, _⟩ := h4.resolve_left (by clear h4; omega)
 clear h4
 cases had
 obtain ⟨cs, k1, k2, k3⟩ := hr.cells (i := 0) he (ys := cells) (by rw [hb]; rfl)
 have hcell : cells[off + i]? = some (.val (.int .u8 m)) := by
  have h5 : (takeL (dropL cells off) n)[i]? = some (.val (.int .u8 m)) := by rw [hns, List.getElem?_map, hm]; rfl
  rw [takeL_eq, dropL_eq, List.getElem?_take] at h5
  split at h5
  ·rwa [List.getElem?_drop] at h5
  ·cases h5
 obtain ⟨u, hu, hru⟩ := (reps_get k2).2 (off + i) _ hcell
 have hq := rep_val hru
 subst hq
 have hmb := okBytes_sound hok m (List.mem_of_getElem? hm)
 have hbm : bv (UInt8.ofNat m.toNat) = .int .u8 m := by
  unfold bv
  rw [UInt8.toNat_ofNat_of_lt' (by show m.toNat < 256; omega)]
  congr 1
  omega
 rw [Addr.add_lit, Nat.mul_one, hbm]
 have := k3 (off + i) _ hu
 rwa [Nat.zero_mul, Nat.zero_add] at this
def bytesK (hg : Nat → Option Ent) (x : AV) (K : Prop → List UInt8 → Prop) : Prop := match x with
 | .bs _ l => K True l
 | .val (.slice none 0 0) => K True []
 | .own r ver sz off n => match hg r with
  | none => False
  | some e => match e.bd with
   | .bytes l => K (ver = e.ver ∧ sz = 1 ∧ off + n ≤ l.length) ((l.drop off).take n)
   | .obj cells => match intsOf .u8 (takeL (dropL cells off) n) with
    | some ns => K (ver = e.ver ∧ sz = 1 ∧ off + n ≤ cells.length ∧ okBytes ns) (ns.map fun n => UInt8.ofNat n.toNat)
    | none => False
   | _ => False
 | .pl r ver i off n => match hg r with
  | none => False
  | some e => match e.bd with
   | .pool ls => K (ver = e.ver ∧ i < ls.length ∧ off + n ≤ (ls.getD i []).length) (((ls.getD i []).drop off).take n)
   | _ => False
 | _ => False
theorem bytesK_sound {x : AV} {K : Prop → List UInt8 → Prop} (h : bytesK hg x K) : ∃ Ψ l, K Ψ l ∧ (Ψ → ∀ (E : Env) (H : List Ent) (w : World) (v : Value), HR E w H → (∀ (r : Nat) (e : Ent), hg r = some e → H[r]? = some e) → rep E w x v → BS w v l) := by
 unfold bytesK at h
 split at h
 ·exact ⟨_, _, h, fun _ E H w v hr hh hv => bs_of_rep hv⟩
 ·exact ⟨_, _, h, fun _ E H w v hr hh hv => by rw [rep_val hv]; exact BS.nil w⟩
 ·split at h
  ·exact h.elim
  rename_i e he
  split at h
  ·rename_i l hb
   exact ⟨_, _, h, fun p E H w v hr hh hv => bs_of_own hr (hh _ e he) hb p.1 p.2.2 (by rw [p.2.1] at hv; exact hv)⟩
  ·rename_i cells hb
   split at h
   rotate_left
   ·exact h.elim
   rename_i ns hns
   exact ⟨_, _, h, fun p E H w v hr hh hv => bs_of_ownobj hr (hh _ e he) hb p.1 p.2.2.1 (intsOf_sound hns) p.2.2.2 (by rw [p.2.1] at hv; exact hv)⟩
  ·exact h.elim
 ·split at h
  ·exact h.elim
  rename_i e he
  split at h
  rotate_left
  ·exact h.elim
  rename_i ls hb
  exact ⟨_, _, h, fun p E H w v hr hh hv => bs_of_pl hr (v0 := e.ver) (ls := ls) (by rw [hh _ e he, ← hb]) p.2.1 p.1 p.2.2 hv⟩
 ·exact h.elim
/-! copy -/
theorem Out.put_same {E : Env} {w : World} {H : List Ent} {r : Nat} {e : Ent} (hr : HR E w H) (he : H[r]? = some e) : Out E E w w H [(r, e)] := by
 have hs : updH H [(r, e)] = H := by
  simp only [updH, setL_eq]
  apply List.ext_getElem?
  intro i
  rw [List.getElem?_set]
  split
  ·rename_i h; subst h
   split
   ·exact he.symm
   ·rename_i h; exact absurd (List.getElem?_eq_some_iff.1 he).1 h
  ·rfl
 have O := Out.same hr
 exact ⟨O.ext, by rw [hs]; exact hr, rfl, rfl, rfl, Nat.le_refl _, O.zone, O.grow, fun _ _ _ => rfl, fun r' e' b h hl => (O.rows r' e' b (by rw [hs] at h; exact h) hl).imp id fun ⟨r0, e0, h1, h2, h3⟩ => ⟨r0, e0, h1, h2, h3.imp id fun q => by cases q⟩⟩
theorem Out.splice {E : Env} {w : World} {H : List Ent} (hr : HR E w H) {r : Nat} {e : Ent} (he : H[r]? = some e) {l m : List UInt8} (hb : e.bd = .bytes l) (hna : ¬ E.abs r) {off : Nat} (hfit : off + m.length ≤ l.length) :
    Out E E w (w.setCells (E.ρ r) off (bvs m)) H [(r, ⟨e.ver, .bytes (l.take off ++ (m ++ l.drop (off + m.length)))⟩)] ∧
    (∀ j, j < m.length → (w.cell? ⟨E.ρ r, off + j, none⟩).isSome = true) ∧ (∀ j, j < m.length → w.frozen? ⟨E.ρ r, off + j, none⟩ = false) := by
 have hl : e.bd.live = true := by rw [hb]; rfl
 obtain ⟨cur, T, lo, hi, h1, h2, h3, h4⟩ := (hr.ent r e he ⟨hl, hna⟩).blk (by rw [hb]; rfl)
 rw [hb] at h3 h4
 simp only [Bd.count, Bd.sz, Nat.mul_one] at h3 h4
 obtain ⟨hch, hs⟩ := setCells_ch (E.ρ r) (bvs m) off w
 have hrow := heap_setCells_row w (E.ρ r) T (lo, hi) (bvs m) off cur h1 (by simp; omega)
 have hsame : E.set r (E.ρ r) e.ver = E := Env.set_same E rfl (hr.ver r e he).symm hna
 have hcl : cur.toList.length = cur.size := by simp
 refine ⟨?_, fun j hj => by rw [cell_of_row w _ _ cur T (lo, hi) h1]; simp; omega, fun j hj => by simp [World.frozen?, h1]; intro h; rcases h2 with h' | h' <;> omega⟩
 have := Out.one (w' := w.setCells (E.ρ r) off (bvs m)) (bd' := .bytes (l.take off ++ (m ++ l.drop (off + m.length)))) (b := E.ρ r) (v' := e.ver) hr he rfl (.inl ⟨rfl, rfl, hna⟩) (.inl ⟨rfl, hl, hna⟩) hch.os hch.tape hch.output (by omega) (fun k hk hne => hch.block k hk hne) ?_ ?_
 ·rw [hsame] at this; exact this
 ·intro cur2 T2 fz2 h6
  rw [h1] at h6
  cases h6
  exact ⟨_, _, _, hrow, by simp; omega⟩
 ·intro X
  rw [hsame] at X ⊢
  refine ⟨fun _ => ⟨_, _, _, _, hrow, ?_, ?_, ?_⟩, fun _ _ _ e => by cases e⟩
  ·rcases h2 with h | h
   ·exact .inl h
   ·refine .inr ?_
    simp only [List.size_toArray, List.length_append, List.length_take, List.length_drop, Array.length_toList, bvs_length]
    omega
  ·simp only [Bd.count, Bd.sz, List.size_toArray, List.length_append, List.length_take, List.length_drop, Array.length_toList, bvs_length]
   omega
  ·intro i ys hy
   simp only [Bd.at, Option.map_eq_some_iff] at hy
   obtain ⟨b, hb', rfl⟩ := hy
   refine ⟨[bv b], rfl, by simp only [reps, rep]; exact ⟨_, _, rfl, rfl, rfl⟩, fun j u hu => ?_⟩
   cases j with
   | succ j => simp at hu
   | zero =>
    simp only [List.getElem?_cons_zero, Option.some.injEq] at hu
    subst hu
    simp only [Bd.sz, Nat.mul_one, Nat.add_zero, List.getElem?_toArray]
    have old : ∀ {k : Nat} {x : UInt8}, l[k]? = some x → cur.toList[k]? = some (bv x) := by
     intro k x hx
     obtain ⟨cs, k1, k2, k3⟩ := h4 k [.val (bv x)] (by simp [Bd.at, hx])
     simp only [reps, rep] at k2
     obtain ⟨u, vs, rfl, rfl, rfl⟩ := k2
     have := k3 0 _ rfl
     simpa using this
    simp only [List.getElem?_append, List.getElem?_take, List.getElem?_drop, List.length_take, List.length_append, hcl, bvs_length] at hb' ⊢
    by_cases q1 : i < off
    ·have a1 : i < min off l.length := by omega
     have a2 : i < min off cur.size := by omega
     have a3 : i < min off cur.size + m.length := by omega
     simp only [a1, q1, if_true] at hb'
     simp only [a2, a3, q1, if_true]
     exact old hb'
    ·have a1 : ¬ i < min off l.length := by omega
     have a2 : ¬ i < min off cur.size := by omega
     have a4 : min off l.length = off := by omega
     have a5 : min off cur.size = off := by omega
     by_cases q2 : i < off + m.length
     ·have a3 : i < min off cur.size + m.length := by omega
      have a6 : i - min off l.length < m.length := by omega
      simp only [a1, a6, if_true, if_false] at hb'
      simp only [a2, a3, if_true, if_false]
      rw [a4] at hb'; rw [a5]
      simp [bvs, hb']
     ·have a3 : ¬ i < min off cur.size + m.length := by omega
      have a6 : ¬ i - min off l.length < m.length := by omega
      simp only [a1, a6, if_false] at hb'
      simp only [a3, if_false]
      rw [a4] at hb'; rw [a5]
      have e1 : off + m.length + (i - off - m.length) = i := by omega
      have e2 : off + m.length + (i - (off + m.length)) = i := by omega
      rw [e1] at hb'
      rw [e2]; exact old hb'
def copyK (tb : TypeId → Option TI) (hg : Nat → Option Ent) (T : TypeId) (x y : AV) (K : KF) : Prop := match tb T with
 | none => False
 | some ti => match ti.u with
  | .slice El => match tb El with
   | none => False
   | some ei => match x with
    | .own r ver sz off n => match hg r with
     | none => False
     | some e => match e.bd with
      | .bytes l => bytesK hg y fun Ψ m => K ((ver = e.ver ∧ sz = 1 ∧ off + n ≤ l.length ∧ ei.sz = 1) ∧ Ψ) (.val (.int .i64 (min n m.length : Nat))) [(r, ⟨e.ver, .bytes (l.take off ++ (m.take (min n m.length) ++ l.drop (off + min n m.length)))⟩)]
      | .obj cells => bytesK hg y fun Ψ m => K ((ver = e.ver ∧ sz = 1 ∧ off + n ≤ cells.length ∧ ei.sz = 1 ∧ 0 < min n m.length) ∧ Ψ) (.val (.int .i64 (min n m.length : Nat))) [(r, ⟨e.ver, .obj (putA cells off ((m.take (min n m.length)).map fun b => .val (bv b)))⟩)]
      | _ => False
    | _ => False
  | _ => False
theorem frz_row {w : World} {b : Nat} {cur : Array Value} {T} {lo hi k : Nat} (h : w.heap[b]? = some (.cells cur T (lo, hi))) (g : hi = lo ∨ cur.size ≤ lo) (hk : k < cur.size) : w.frozen? ⟨b, k, none⟩ = false := by
 simp [World.frozen?, h]; intro h; rcases g with h' | h' <;> omega
theorem copy_sound {tb : TypeId → Option TI} (htb : TbOk P tb) {T Ts : TypeId} {x y : Operand} (ho : o.op = .call { callee := .builtin .copy, args := #[x, y], argTypes := #[T, Ts] }) {K : KF} (h : copyK tb hg T (ev x) (ev y) K) : ∃ Φ v us, K Φ v us ∧ Snd P o ev hg Φ v us := by
 unfold copyK at h
 split at h
 ·exact h.elim
 rename_i ti hti
 have hT := (htb T ti hti).u
 split at h
 rotate_left
 ·exact h.elim
 rename_i El hu
 rw [hu] at hT
 have hT' : P.underlying T = some (.slice El) := hT
 split at h
 ·exact h.elim
 rename_i ei hei
 have hE := htb El ei hei
 obtain ⟨z, hz, hzc⟩ := hE.info
 obtain ⟨inf, hi, i1, i2, i3⟩ := info_parts hz
 split at h
 rotate_left
 ·exact h.elim
 rename_i r ver sz off n hx
 split at h
 ·exact h.elim
 rename_i e he
 split at h
 rotate_left
 ·rename_i cells hb
  obtain ⟨Ψ, m, h, hm⟩ := bytesK_sound h
  refine ⟨_, _, _, h, fun p E H w ρv hr hh hops => ?_⟩
  obtain ⟨⟨p1, p2, p3, p4, p5⟩, pΨ⟩ := p
  subst p2
  have hvx := hops x (by rw [ho]; simp [opnds])
  have hvy := hops y (by rw [ho]; simp [opnds])
  rw [hx, rep] at hvx
  have heH := hh r e he
  obtain ⟨a, c, hv, h1, h2, h3, h4⟩ := hvx.2 (p1.trans (hr.ver r e heH).symm)
  obtain ⟨sa, sn, sc, hsv, hsl, hle, _, hnil, hcell⟩ := hm pΨ E H w _ hr hh hvy
  have hsn : sn = m.length := by simpa using hsl.symm
  have hsz1 : (P.info? El).map (·.size) = some 1 := by rw [hi]; simp [i2, p4]
  have hmin : Nat.min sn n = min n m.length := by rw [hsn]; exact Nat.min_comm _ _
  have hrun : ∀ {v' : Value} {w' : World}, (Builtin.copy_ #[T, Ts] o.type #[.slice a n c, .slice sa sn sc]).run P w = .ok v' w' → (execOp ρv o).run P w = .ok (.value v') w' := by
   intro v' w' hc
   unfold execOp
   simp only [ho, resolve, invoke, builtin, Sem.run_bind, Sem.run_pure, Result.andThen_ok, List.map_toArray, List.map_cons, List.map_nil, hv, hsv, hc]
  have hc0 : c ≠ 0 := by
   clear h4 hcell hm
   have := Nat.min_le_left n m.length
   omega
  obtain ⟨hna, ha, cur, Tc, fz, hblk, hcs⟩ := h4.resolve_left hc0
  clear h4
  have hlen : (m.take (min n m.length)).length = min n m.length := by simp
  have hat : e.bd.at 0 = some cells := by rw [hb]; rfl
  have hsz : e.bd.sz = cells.length := by rw [hb]; rfl
  have hnl : ((m.take (min n m.length)).map fun b => AV.val (bv b)).length = min n m.length := by rw [List.length_map, hlen]
  have hpl : (putA cells off ((m.take (min n m.length)).map fun b => AV.val (bv b))).length = cells.length := by
   unfold putA
   rw [takeL_eq, dropL_eq, List.length_append, List.length_append, List.length_take, List.length_drop, hnl]
   omega
  have hreps : ∀ (l : List UInt8), reps E w (l.map fun b => AV.val (bv b)) (bvs l) := by
   intro l
   induction l with
   | nil => simp only [List.map_nil, reps]; rfl
   | cons b l ih => simp only [List.map_cons, reps, rep]; exact ⟨_, bvs l, rfl, rfl, ih⟩
  have O := Out.store (i := 0) (j := off) (new := (m.take (min n m.length)).map fun b => AV.val (bv b)) (vs := bvs (m.take (min n m.length))) hr heH hat (bd' := .obj (putA cells off ((m.take (min n m.length)).map fun b => AV.val (bv b)))) (by rw [hsz]; exact hpl) (by rw [hb]; rfl) (fun i' ys' hy => by
   left
   simp only [Bd.at] at hy
   split at hy
   ·exact ⟨by assumption, (Option.some.inj hy).symm⟩
   ·cases hy) (hreps _) (by rw [hnl, hsz]; omega) rfl
  rw [hsz, Nat.zero_mul, Nat.zero_add] at O
  have hliv : Liv E r e := ⟨by rw [hb]; rfl, hna⟩
  obtain ⟨cur', T', lo', hi', g1, g2, g3, _⟩ := (hr.ent r e heH hliv).blk (by rw [hb]; rfl)
  rw [hb] at g3
  simp only [Bd.count, Bd.sz, Nat.one_mul] at g3
  have hlt : ∀ j, j < min n m.length → off + j < cur'.size := fun j hj => Nat.lt_of_lt_of_le (Nat.add_lt_add_left (Nat.lt_of_lt_of_le hj (Nat.min_le_left ..)) off) (Nat.le_trans p3 g3)
  have hf1 : ∀ j, j < min n m.length → (w.cell? ⟨E.ρ r, off + j, none⟩).isSome = true := fun j hj => by
   rw [cell_of_row w _ _ cur' T' (lo', hi') g1]
   have := hlt j hj
   simp [this]
  have hf2 : ∀ j, j < min n m.length → w.frozen? ⟨E.ρ r, off + j, none⟩ = false := fun j hj => frz_row g1 g2 (hlt j hj)
  cases sa with
  | none => have h8 := hnil rfl
            have h9 := Nat.min_le_right n m.length
            omega
  | some ad =>
   have hcp := run_copy_cells (P := P) w T Ts o.type El (E.ρ r) off n c ad sn sc (bvs (m.take (min n m.length))) hT' hsz1 (by rw [bvs_length, hlen, hmin]) (fun j v hj => by
    have := hcell ad rfl j v (by
     rw [← bvs_take, List.getElem?_take] at hj
     split at hj
     ·exact hj
     ·cases hj)
    exact this) (by rw [bvs_length, hlen]; exact hf1) (by rw [bvs_length, hlen]; exact hf2) (bvs_one _)
   rw [ha, Nat.mul_one] at hrun
   rw [bvs_length, hlen] at hcp
   exact ⟨_, _, E, .inl (hrun hcp), by rw [rep]; rfl, O⟩
 ·exact h.elim
 rename_i l hb
 obtain ⟨Ψ, m, h, hm⟩ := bytesK_sound h
 refine ⟨_, _, _, h, fun p E H w ρv hr hh hops => ?_⟩
 obtain ⟨⟨p1, p2, p3, p4⟩, pΨ⟩ := p
 subst p2
 have hvx := hops x (by rw [ho]; simp [opnds])
 have hvy := hops y (by rw [ho]; simp [opnds])
 rw [hx, rep] at hvx
 have heH := hh r e he
 obtain ⟨a, c, hv, h1, h2, h3, h4⟩ := hvx.2 (p1.trans (hr.ver r e heH).symm)
 obtain ⟨sa, sn, sc, hsv, hsl, hle, _, hnil, hcell⟩ := hm pΨ E H w _ hr hh hvy
 have hsn : sn = m.length := by simpa using hsl.symm
 have hsz1 : (P.info? El).map (·.size) = some 1 := by rw [hi]; simp [i2, p4]
 have hmin : Nat.min sn n = min n m.length := by rw [hsn]; exact Nat.min_comm _ _
 have hrun : ∀ {v' : Value} {w' : World}, (Builtin.copy_ #[T, Ts] o.type #[.slice a n c, .slice sa sn sc]).run P w = .ok v' w' → (execOp ρv o).run P w = .ok (.value v') w' := by
  intro v' w' hc
  unfold execOp
  simp only [ho, resolve, invoke, builtin, Sem.run_bind, Sem.run_pure, Result.andThen_ok, List.map_toArray, List.map_cons, List.map_nil, hv, hsv, hc]
 by_cases hk : min n m.length = 0
 ·have hc := run_copy_none (P := P) w T Ts o.type El a sa n c sn sc hT' hsz1 (by rw [hmin]; exact hk)
  refine ⟨_, w, E, .inl (hrun hc), by rw [rep, hk]; rfl, ?_⟩
  have e1 : (⟨e.ver, .bytes (l.take off ++ (m.take (min n m.length) ++ l.drop (off + min n m.length)))⟩ : Ent) = e := by
   cases e with
   | mk ver bd =>
    simp only at hb
    rw [hk, hb]; simp
  rw [e1]
  exact Out.put_same hr heH
 ·obtain ⟨hna, ha, cur, Tc, fz, hblk, hcs⟩ := h4.resolve_left (by omega)
  have hlen : (m.take (min n m.length)).length = min n m.length := by simp
  obtain ⟨O, hc1, hc2⟩ := Out.splice (m := m.take (min n m.length)) hr heH hb hna (off := off) (by rw [hlen]; omega)
  rw [hlen] at O hc1 hc2
  cases sa with
  | none => have := hnil rfl
            omega
  | some ad =>
   have hcp := run_copy_cells (P := P) w T Ts o.type El (E.ρ r) off n c ad sn sc (bvs (m.take (min n m.length))) hT' hsz1 (by rw [bvs_length, hlen, hmin]) (fun j v hj => by
    have := hcell ad rfl j v (by
     rw [← bvs_take, List.getElem?_take] at hj
     split at hj
     ·exact hj
     ·cases hj)
    exact this) (by rw [bvs_length, hlen]; exact hc1) (by rw [bvs_length, hlen]; exact hc2) (bvs_one _)
   rw [ha, Nat.mul_one] at hrun
   rw [bvs_length, hlen] at hcp
   exact ⟨_, _, E, .inl (hrun hcp), by rw [rep]; rfl, O⟩
/-! clear -/
theorem Out.fill {E : Env} {w : World} {H : List Ent} (hr : HR E w H) {r : Nat} {e : Ent} (he : H[r]? = some e) (hc : e.bd.cel = true) (hna : ¬ E.abs r) {off n : Nat} {vs : List Value} (hvs : vs.length = n * e.bd.sz) (hfit : off + n ≤ e.bd.count) {bd' : Bd} (hsz : bd'.sz = e.bd.sz) (hct : bd'.count = e.bd.count) (hnl : bd'.lpB = false)
    (hbd : ∀ i' ys', bd'.at i' = some ys' → (off ≤ i' ∧ i' < off + n ∧ ∃ us, us.length = e.bd.sz ∧ (∀ E w, reps E w ys' us) ∧ ∀ j u, us[j]? = some u → vs[(i' - off) * e.bd.sz + j]? = some u) ∨ ((i' < off ∨ off + n ≤ i') ∧ e.bd.at i' = some ys')) :
    Out E E w (w.setCells (E.ρ r) (off * e.bd.sz) vs) H [(r, ⟨e.ver, bd'⟩)] ∧
    (∀ j, j < vs.length → (w.cell? ⟨E.ρ r, off * e.bd.sz + j, none⟩).isSome = true) ∧ (∀ j, j < vs.length → w.frozen? ⟨E.ρ r, off * e.bd.sz + j, none⟩ = false) := by
 have hl := Bd.live_of hc
 obtain ⟨cur, T, lo, hi, h1, h2, h3, h4⟩ := (hr.ent r e he ⟨hl, hna⟩).blk hc
 obtain ⟨hch, hs⟩ := setCells_ch (E.ρ r) vs (off * e.bd.sz) w
 have hfit2 : off * e.bd.sz + vs.length ≤ cur.size := by
  have h5 : (off + n) * e.bd.sz ≤ e.bd.count * e.bd.sz := Nat.mul_le_mul_right _ hfit
  rw [Nat.add_mul] at h5
  omega
 have hrow := heap_setCells_row w (E.ρ r) T (lo, hi) vs (off * e.bd.sz) cur h1 hfit2
 have hsame : E.set r (E.ρ r) e.ver = E := Env.set_same E rfl (hr.ver r e he).symm hna
 have hcl : cur.toList.length = cur.size := by simp
 refine ⟨?_, fun j hj => by rw [cell_of_row w _ _ cur T (lo, hi) h1]; simp; omega, fun j hj => by simp [World.frozen?, h1]; intro h; rcases h2 with h' | h' <;> omega⟩
 have := Out.one (w' := w.setCells (E.ρ r) (off * e.bd.sz) vs) (bd' := bd') (b := E.ρ r) (v' := e.ver) hr he (Bd.isP_of_lpB hnl) (.inl ⟨rfl, rfl, hna⟩) (.inl ⟨rfl, hl, hna⟩) hch.os hch.tape hch.output (by omega) (fun k hk hne => hch.block k hk hne) ?_ ?_
 ·rw [hsame] at this; exact this
 ·intro cur2 T2 fz2 h6
  rw [h1] at h6
  cases h6
  exact ⟨_, _, _, hrow, by simp; omega⟩
 ·intro X
  rw [hsame] at X ⊢
  refine ⟨fun _ => ⟨_, _, _, _, hrow, ?_, ?_, ?_⟩, fun _ _ _ e => absurd e (Bd.not_lp hnl)⟩
  ·rcases h2 with h | h
   ·exact .inl h
   ·refine .inr ?_
    simp only [List.size_toArray, List.length_append, List.length_take, List.length_drop, Array.length_toList]
    omega
  ·rw [hsz, hct]
   simp only [List.size_toArray, List.length_append, List.length_take, List.length_drop, Array.length_toList]
   omega
  ·intro i' ys' hy'
   rw [hsz]
   rcases hbd i' ys' hy' with ⟨ho1, ho2, us, u1, u2, u3⟩ | ⟨hne, hy2⟩
   ·refine ⟨us, u1, u2 _ _, fun k u hu => ?_⟩
    have hk : k < e.bd.sz := by have := (List.getElem?_eq_some_iff.1 hu).1; omega
    have hv := u3 k u hu
    have hvl := (List.getElem?_eq_some_iff.1 hv).1
    have he1 : i' * e.bd.sz = off * e.bd.sz + (i' - off) * e.bd.sz := by rw [← Nat.add_mul]; congr 1; omega
    simp only [List.getElem?_toArray, List.getElem?_append, List.getElem?_take, List.getElem?_drop, List.length_take, List.length_append, Array.length_toList]
    have a2 : ¬ i' * e.bd.sz + k < min (off * e.bd.sz) cur.size := by omega
    have a3 : i' * e.bd.sz + k < min (off * e.bd.sz) cur.size + vs.length := by omega
    have a6 : i' * e.bd.sz + k - min (off * e.bd.sz) cur.size = (i' - off) * e.bd.sz + k := by omega
    simp only [a2, a3, if_true, if_false, a6]
    exact hv
   ·obtain ⟨cs, h5, h6, h7⟩ := h4 i' ys' hy2
    refine ⟨cs, h5, reps_ext X _ _ h6, fun k u hu => ?_⟩
    have hk : k < e.bd.sz := by have := (List.getElem?_eq_some_iff.1 hu).1; omega
    have hlt' := Bd.at_lt hy2
    have hb : i' * e.bd.sz + k < cur.size := by
     have h5 : (i' + 1) * e.bd.sz ≤ e.bd.count * e.bd.sz := Nat.mul_le_mul_right _ hlt'
     rw [Nat.add_mul, Nat.one_mul] at h5
     omega
    have hout : i' * e.bd.sz + k < off * e.bd.sz ∨ off * e.bd.sz + vs.length ≤ i' * e.bd.sz + k := by
     rcases hne with h | h
     ·left
      have h5 : (i' + 1) * e.bd.sz ≤ off * e.bd.sz := Nat.mul_le_mul_right _ h
      rw [Nat.add_mul, Nat.one_mul] at h5
      omega
     ·right
      have h5 : (off + n) * e.bd.sz ≤ i' * e.bd.sz := Nat.mul_le_mul_right _ h
      rw [Nat.add_mul] at h5
      omega
    have := h7 k u hu
    simp only [List.getElem?_toArray, List.getElem?_append, List.getElem?_take, List.getElem?_drop, List.length_take, List.length_append, Array.length_toList]
    rcases hout with h | h
    ·have a2 : i' * e.bd.sz + k < min (off * e.bd.sz) cur.size := by omega
     have a3 : i' * e.bd.sz + k < min (off * e.bd.sz) cur.size + vs.length := by omega
     simp only [a2, a3, h, if_true]
     simpa using this
    ·have a3 : ¬ i' * e.bd.sz + k < min (off * e.bd.sz) cur.size + vs.length := by omega
     simp only [a3, if_false]
     have e2 : off * e.bd.sz + vs.length + (i' * e.bd.sz + k - (min (off * e.bd.sz) cur.size + vs.length)) = i' * e.bd.sz + k := by omega
     rw [e2]
     simpa using this
theorem zeroCells_get (z : Array Value) (n : Nat) {q j : Nat} {u : Value} (hq : q < n) (hu : z.toList[j]? = some u) : (Builtin.zeroCells z n).toList[q * z.size + j]? = some u := by
 obtain ⟨hj, hu⟩ := List.getElem?_eq_some_iff.1 hu
 simp only [Array.length_toList] at hj
 have hlt : q * z.size + j < n * z.size := by
  have : (q + 1) * z.size ≤ n * z.size := Nat.mul_le_mul_right _ hq
  rw [Nat.add_mul, Nat.one_mul] at this; omega
 have hm : (q * z.size + j) % z.size = j := by
  rw [Nat.mul_comm, Nat.mul_add_mod]; exact Nat.mod_eq_of_lt hj
 unfold Builtin.zeroCells
 simp only [Array.toList_map, Array.toList_range, List.getElem?_map, List.getElem?_range hlt, Option.map_some, hm]
 rw [getElem!_pos z j hj]
 congr 1
theorem zeroCells_len (z : Array Value) (n : Nat) : (Builtin.zeroCells z n).toList.length = n * z.size := by
 unfold Builtin.zeroCells; simp
def optF {α : Type} (f : α → List AV) (z : List Value) : Option α → List AV
 | some a => f a
 | none => z.map .val
def clearK (tb : TypeId → Option TI) (hg : Nat → Option Ent) (T : TypeId) (x : AV) (K : KF) : Prop := match tb T with
 | none => False
 | some ti => match ti.u with
  | .slice El => match tb El with
   | none => False
   | some ei => match x with
    | .own r ver sz off n => match hg r with
     | none => False
     | some e => match e.bd with
      | .row sz' f d l => K (ver = e.ver ∧ sz = sz' ∧ 0 < n ∧ off + n ≤ l.length ∧ ei.sz = sz' ∧ (ei.zero.all fun v => v.oneCell') = true) .any [(r, ⟨e.ver, .row sz' (optF f ei.zero) none ((l.take off).map some ++ (List.replicate n none ++ (l.drop (off + n)).map some))⟩)]
      | _ => False
    | _ => False
  | _ => False
theorem clear_sound {tb : TypeId → Option TI} (htb : TbOk P tb) {T : TypeId} {x : Operand} (ho : o.op = .call { callee := .builtin .clear, args := #[x], argTypes := #[T] }) {K : KF} (h : clearK tb hg T (ev x) K) : ∃ Φ v us, K Φ v us ∧ Snd P o ev hg Φ v us := by
 unfold clearK at h
 split at h
 ·exact h.elim
 rename_i ti hti
 have hT := (htb T ti hti).u
 split at h
 rotate_left
 ·exact h.elim
 rename_i El hu
 rw [hu] at hT
 have hT' : P.underlying T = some (.slice El) := hT
 split at h
 ·exact h.elim
 rename_i ei hei
 have hE := htb El ei hei
 obtain ⟨z, hz, hzc⟩ := hE.info
 obtain ⟨inf, hi, i1, i2, i3⟩ := info_parts hz
 split at h
 rotate_left
 ·exact h.elim
 rename_i r ver sz off n hx
 split at h
 ·exact h.elim
 rename_i e he
 split at h
 rotate_left
 ·exact h.elim
 rename_i sz' α f d l hb
 refine ⟨_, _, _, h, fun p E H w ρv hr hh hops => ?_⟩
 obtain ⟨p1, p2, p3, p4, p5, p6⟩ := p
 subst p2
 have hvx := hops x (by rw [ho]; simp [opnds])
 rw [hx, rep] at hvx
 have heH := hh r e he
 obtain ⟨a, c, hv, h1, h2, h3, h4⟩ := hvx.2 (p1.trans (hr.ver r e heH).symm)
 obtain ⟨hna, ha, cur, Tc, fz, hblk, hcs⟩ := h4.resolve_left (by omega)
 have hbs : e.bd.sz = sz := by rw [hb]; rfl
 have hzs : z.cells.size = sz := by rw [← p5, ← hE.zsz, ← hzc]; simp
 have hvl : (Builtin.zeroCells z.cells n).toList.length = n * e.bd.sz := by rw [zeroCells_len, hzs, hbs]
 have h1c : ∀ v ∈ ei.zero, v.oneCell' = true := by simpa using p6
 obtain ⟨O, hc1, hc2⟩ := Out.fill (bd' := .row sz (optF f ei.zero) none ((l.take off).map some ++ (List.replicate n none ++ (l.drop (off + n)).map some))) hr heH (by rw [hb]; rfl) hna (off := off) (n := n) (vs := (Builtin.zeroCells z.cells n).toList) hvl (by rw [hb]; exact p4) (by rw [hb]; rfl) (by rw [hb]; simp only [Bd.count, List.length_append, List.length_map, List.length_take, List.length_replicate, List.length_drop]; omega) rfl (fun i' ys' hy => by
  rw [hb]
  simp only [Bd.at, Option.map_eq_some_iff] at hy
  obtain ⟨b, hb', rfl⟩ := hy
  simp only [List.getElem?_append, List.length_map, List.length_take, List.getElem?_map, List.getElem?_take, List.length_replicate, List.getElem?_replicate, List.getElem?_drop] at hb'
  by_cases q1 : i' < off
  ·right
   have a1 : i' < min off l.length := by omega
   simp only [a1, q1, if_true, Option.map_eq_some_iff] at hb'
   obtain ⟨u, hu, rfl⟩ := hb'
   exact ⟨.inl q1, by simp only [Bd.at, hu]; rfl⟩
  ·have a1 : ¬ i' < min off l.length := by omega
   have a4 : min off l.length = off := by omega
   by_cases q2 : i' < off + n
   ·left
    have a5 : i' - min off l.length < n := by omega
    simp only [a1, a5, if_true, if_false, Option.some.injEq] at hb'
    subst hb'
    refine ⟨by omega, q2, ei.zero, by rw [hE.zsz, p5]; rfl, fun E w => reps_vals _, fun j u hu => ?_⟩
    show (Builtin.zeroCells z.cells n).toList[(i' - off) * sz + j]? = some u
    rw [← hzs]
    exact zeroCells_get z.cells n (by omega) (by rw [hzc]; exact hu)
   ·right
    have a5 : ¬ i' - min off l.length < n := by omega
    simp only [a1, a5, if_false, Option.map_eq_some_iff] at hb'
    obtain ⟨u, hu, rfl⟩ := hb'
    have e1 : off + n + (i' - min off l.length - n) = i' := by omega
    rw [e1] at hu
    exact ⟨.inr (by omega), by simp only [Bd.at, hu]; rfl⟩)
 have hv1 : ∀ v ∈ (Builtin.zeroCells z.cells n).toList, v.oneCell' = true := by
  intro v hv
  obtain ⟨k, hk, rfl⟩ := List.getElem_of_mem hv
  unfold Builtin.zeroCells
  simp only [Array.toList_map, Array.toList_range, List.getElem_map, List.getElem_range]
  rw [zeroCells_len] at hk
  have hpos : 0 < z.cells.size := by
   rcases Nat.eq_zero_or_pos z.cells.size with h0 | h0
   ·rw [h0, Nat.mul_zero] at hk; omega
   ·exact h0
  rw [getElem!_pos z.cells _ (Nat.mod_lt _ hpos)]
  exact h1c _ (by rw [← hzc]; exact Array.getElem_mem_toList _)
 have hst := run_storeCells_cells (P := P) (E.ρ r) (off * e.bd.sz) (Builtin.zeroCells z.cells n).toList 0 w (by simpa using hc1) (by simpa using hc2) hv1
 obtain ⟨m, rfl⟩ : ∃ m, n = m + 1 := ⟨n - 1, by omega⟩
 refine ⟨.tuple #[], _, E, .inl ?_, by rw [rep]; trivial, O⟩
 rw [Nat.add_zero, hbs] at hst
 rw [hbs]
 unfold execOp
 simp only [ho, resolve, invoke, builtin, Sem.run_bind, Sem.run_pure, Result.andThen_ok, List.map_toArray, List.map_cons, List.map_nil, hv, ha]
 simp [Builtin.clear_, run_underlying hT', zeroValue, typeInfo, hi, i1, hst]
def convAllK (tb : TypeId → Option TI) (hg : Nat → Option Ent) (p : Nat) (o : Oper) (S T : TypeId) (x : AV) (K : KF) : Prop := match tb S with
 | none => False
 | some si => match tb T with
  | none => False
  | some ti => match si.u with
   | .string => match ti.u with
    | .slice El => match tb El with
     | none => False
     | some ei => match ei.u with
      | .int .u8 => match x with
       | .val (.string s) => rowK hg p o s.size (.bytes s.data.toList) fun Φ v us => K ((s.size ≤ 140737488355328) ∧ Φ) v us
       | _ => False
      | _ => False
    | _ => False
   | .slice El => match ti.u with
    | .string => match tb El with
     | none => False
     | some ei => match ei.u with
      | .int .u8 => bytesK hg x fun Ψ l => K Ψ (.val (.string (strOf l))) []
      | _ => False
    | .slice _ => match x with
     | .own r ver sz off n => match hg r with
      | none => False
      | some e => match tb El with
       | none => False
       | some ei => match ei.u with
        | .int .u8 => K (S = T ∧ ver = e.ver ∧ 0 < n ∧ e.bd.cel = true) (.own r ver sz off n) [(r, ⟨e.ver, e.bd⟩)]
        | _ => False
     | _ => False
    | _ => False
   | .int _ => convK tb S T x K
   | _ => False
theorem convAll_sound {tb : TypeId → Option TI} (htb : TbOk P tb) {p : Nat} {S T : TypeId} {x : Operand} (ho : o.op = .convert S T x) {K : KF} (h : convAllK tb hg p o S T (ev x) K) : ∃ Φ v us, K Φ v us ∧ Snd P o ev hg Φ v us := by
 unfold convAllK at h
 split at h
 ·exact h.elim
 rename_i si hsi
 split at h
 ·exact h.elim
 rename_i ti hti
 have hS := (htb S si hsi).u
 have hT := (htb T ti hti).u
 split at h
 ·rename_i hu
  repeat' (split at h; rotate_left; (try exact h.elim))
  all_goals (try exact h.elim)
  rename_i _ El hu2 _ ei hei _ hk _ s hx
  rw [hu] at hS; rw [hu2] at hT
  have hS' : P.underlying S = some .string := hS
  have hT' : P.underlying T = some (.slice El) := hT
  have hE := (htb El ei hei).u
  rw [hk] at hE
  have hE' : P.underlying El = some (.int .u8) := hE
  unfold rowK at h
  split at h
  ·exact h.elim
  rename_i d hd
  split at h
  ·exact h.elim
  rename_i e he
  refine ⟨_, _, _, h, fun q E H w ρv hr hh hops => ?_⟩
  have hsz : s.size ≤ maxLen := by have := q.1; unfold maxLen; omega
  have hv := hops x (by rw [ho]; simp [opnds])
  rw [hx] at hv
  have hv := rep_val hv
  have hrun := Lib.run_convert_string_bytes (P := P) w S T El s hS' hT' hE'
  have hnew := Lib.bytesWorld_at_new w El s
  have hsize := Lib.bytesWorld_size w El s
  have hge := grownCap_ge w s.size 0 El
  have hcm := grownCap_le_maxLen w s.size 0 El hsz
  have hcs : (Lib.bytesCells w El s).size = grownCap w s.size 0 El := by
   have hsd : s.data.size = s.size := rfl
   simp only [Lib.bytesCells, Array.size_append, Array.size_map, Array.size_replicate]; omega
  refine ⟨.slice (some ⟨w.heap.size, 0, none⟩) s.size (grownCap w s.size 0 El), Lib.bytesWorld w El s, E.set (p + d) w.heap.size (e.ver + 1), .inl (by unfold execOp; simp only [ho, hv, Sem.run_bind, hrun, Sem.run_pure, Result.andThen_ok]), ?_, Out.one hr (hh _ _ he) rfl (.inr (by omega)) (.inr (Nat.le_refl _)) ?_ ?_ ?_ (by omega) (fun k hk _ => Lib.bytesWorld_at_old w El s k hk) (fun cur T3 fz h11 => ?_) (fun X => ⟨fun _ => ⟨_, _, _, _, hnew, .inr (Nat.le_refl _), ?_, fun i ys hy => ?_⟩, fun _ _ _ e => by cases e⟩)⟩
  ·rw [rep, Env.set_ver, Env.set_ρ]
   refine ⟨Nat.le_refl _, fun _ => ⟨_, _, rfl, hge, hcm, (fun h => by cases h), .inr ⟨Env.set_abs _ _ _ _, by rw [Nat.zero_mul], _, _, _, hnew, ?_⟩⟩⟩
   rw [hcs]; simp [Bd.sz]
  ·simp [Lib.bytesWorld, World.freeze, World.alloc, World.drew, -World.alloc_eq, -World.drew_eq]
  ·simp [Lib.bytesWorld, World.freeze, World.alloc, World.drew, -World.alloc_eq, -World.drew_eq]
  ·simp [Lib.bytesWorld, World.freeze, World.alloc, World.drew, -World.alloc_eq, -World.drew_eq]
  ·have := (Array.getElem?_eq_some_iff.1 h11).1; omega
  ·rw [hcs]
   have : s.data.toList.length = s.size := by simp
   simp only [Bd.count, Bd.sz, Nat.mul_one, this]; exact hge
  ·simp only [Bd.at, Option.map_eq_some_iff] at hy
   obtain ⟨b, hb, rfl⟩ := hy
   refine ⟨[bv b], rfl, by simp only [reps, rep]; exact ⟨_, _, rfl, rfl, rfl⟩, fun j u hu => ?_⟩
   cases j with
   | zero =>
    simp at hu; subst hu
    have hlt := (List.getElem?_eq_some_iff.1 hb).1
    simp only [Bd.sz, Nat.mul_one, Nat.add_zero, Lib.bytesCells]
    rw [Array.getElem?_append_left (by simpa using hlt)]
    simp only [Array.getElem?_map]
    have : s.data[i]? = some b := by simpa using hb
    rw [this]; rfl
   | succ j => simp at hu
 ·rename_i El hu
  rw [hu] at hS
  have hS' : P.underlying S = some (.slice El) := hS
  split at h
  ·rename_i hu2
   rw [hu2] at hT
   have hT' : P.underlying T = some .string := hT
   split at h
   ·exact h.elim
   rename_i ei hei
   split at h
   rotate_left
   ·exact h.elim
   rename_i hk
   have hE := (htb El ei hei).u
   rw [hk] at hE
   have hE' : P.underlying El = some (.int .u8) := hE
   obtain ⟨Ψ, l, h, hl⟩ := bytesK_sound h
   refine ⟨_, _, _, h, Snd.pure fun q E H w ρv hr hh hops => ?_⟩
   have hv := hops x (by rw [ho]; simp [opnds])
   have hrun := run_bytes_str hT' hS' hE' (hl q E H w _ hr hh hv)
   refine ⟨_, ?_, by rw [rep]⟩
   unfold execOp; simp only [ho, Sem.run_bind, hrun, Sem.run_pure, Result.andThen_ok]
  ·split at h
   rotate_left
   ·exact h.elim
   rename_i r ver sz off n hx
   split at h
   ·exact h.elim
   rename_i e he
   split at h
   ·exact h.elim
   rename_i ei hei
   split at h
   rotate_left
   ·exact h.elim
   rename_i hk
   have hE := (htb El ei hei).u
   rw [hk] at hE
   have hE' : P.underlying El = some (.int .u8) := hE
   refine ⟨_, _, _, h, fun q E H w ρv hr hh hops => ?_⟩
   obtain ⟨rfl, q2, q3, q4⟩ := q
   have hH := hh r e he
   have hv := hops x (by rw [ho]; simp [opnds])
   rw [hx, rep] at hv
   have hver := hr.ver r e hH
   obtain ⟨a, c, hsl, h2, h3, h4, h5⟩ := hv.2 (by omega)
   obtain ⟨hna, rfl, cur, T', fz, h6, h7⟩ := h5.resolve_left (by omega)
   have hliv : Liv E r e := ⟨Bd.live_of q4, hna⟩
   obtain ⟨cur2, T2, lo, hi, g1, g2, g3, g4⟩ := (hr.ent r e hH hliv).blk q4
   rw [h6] at g1
   cases g1
   have hlt := (Array.getElem?_eq_some_iff.1 h6).1
   obtain ⟨w', hw'⟩ : ∃ w' : World, w' = w.freeze ⟨E.ρ r, cur.size, none⟩ 1 := ⟨_, rfl⟩
   have hrun : (convert S S (ρv x)).run P w = .ok (ρv x) w' := by
    rw [hsl, hw']
    simp [convert, run_underlying hS', run_underlying hE', markStringish, World.shape?, h6]
   have hsame : w'.os = w.os ∧ w'.tape = w.tape ∧ w'.output = w.output ∧ w'.heap.size = w.heap.size := by rw [hw']; simp [World.freeze]
   have hoth : ∀ k, k ≠ E.ρ r → w'.heap[k]? = w.heap[k]? := by
    intro k hk
    rw [hw']
    simp only [World.freeze, if_neg (show ¬ (1 : Nat) = 0 by decide)]
    rw [Array.getElem?_modify, if_neg (Ne.symm hk)]
   have hown : ∃ lo' hi', w'.heap[E.ρ r]? = some (.cells cur T' (lo', hi')) ∧ (hi' = lo' ∨ cur.size ≤ lo') := by
    rw [hw']
    simp only [World.freeze, if_neg (show ¬ (1 : Nat) = 0 by decide)]
    rw [Array.getElem?_modify, if_pos rfl, h6]
    simp only [Option.map_some]
    by_cases hq : lo = hi
    ·subst hq
     exact ⟨cur.size, cur.size + 1, by simp, .inr (Nat.le_refl _)⟩
    ·refine ⟨min lo cur.size, max hi (cur.size + 1), by simp [hq], .inr ?_⟩
     rcases g2 with g2 | g2
     ·exact absurd g2.symm hq
     ·omega
   obtain ⟨lo', hi', k1, k2⟩ := hown
   have hE1 : E.set r (E.ρ r) e.ver = E := Env.set_same E rfl hver.symm hna
   have O := Out.one (E := E) (w := w) (w' := w') (r0 := r) (b := E.ρ r) (v' := e.ver) (bd' := e.bd) hr hH (Bd.isP_of_lpB (Bd.lpB_of q4)) (.inl ⟨rfl, rfl, hna⟩) (.inl ⟨rfl, hliv⟩) hsame.1 hsame.2.1 hsame.2.2.1 (by omega) (fun k _ hk => hoth k hk)
    (fun cur3 T3 fz3 h => by rw [h6] at h; cases h; exact ⟨_, _, _, k1, Nat.le_refl _⟩)
    (fun X => ⟨fun _ => ⟨cur, T', lo', hi', k1, k2, g3, fun i ys hy => by
     obtain ⟨cs, m1, m2, m3⟩ := g4 i ys hy
     exact ⟨cs, m1, reps_ext X _ _ m2, m3⟩⟩, fun _ _ _ qq => absurd qq (Bd.not_lp (Bd.lpB_of q4))⟩)
   rw [hE1] at O
   refine ⟨ρv x, w', E, .inl (by unfold execOp; simp only [ho, Sem.run_bind, hrun, Sem.run_pure, Result.andThen_ok]), ?_, O⟩
   refine rep_ext O.ext _ _ ?_
   rw [rep]
   exact ⟨hv.1, fun _ => ⟨_, c, hsl, h2, h3, h4, .inr ⟨hna, rfl, cur, T', _, h6, h7⟩⟩⟩
  ·exact h.elim
 ·exact conv_sound htb ho h
 ·exact h.elim

/-! a slice of an array -/
def litB (ei : TI) (len : Nat) (cells : List AV) (K : Bd → Prop → Prop) : Prop := match ei.u with
 | .int .u8 => match intsOf .u8 cells with
  | some ns => K (.bytes (ns.map fun n => UInt8.ofNat n.toNat)) (okBytes ns ∧ ns.length = len ∧ ei.sz = 1)
  | none => False
 | .int k => match intsOf k cells with
  | some ns => K (.row 1 (intF k) 0 ns) (ns.length = len ∧ ei.sz = 1)
  | none => False
 | _ => K (.row ei.sz (fun i => takeL (dropL cells (i * ei.sz)) ei.sz) 0 (List.range len)) (cells.length = len * ei.sz)
theorem litB_sound {ei : TI} {len : Nat} {cells : List AV} {K : Bd → Prop → Prop} (h : litB ei len cells K) : ∃ bd Ψ, K bd Ψ ∧ (Ψ → bd.count = len ∧ bd.sz = ei.sz ∧ bd.cel = true ∧
    ∀ (E : Env) (w : World) (cs : Array Value), len * ei.sz ≤ cs.size → (∀ (i : Nat) (x : AV), cells[i]? = some x → ∃ u, cs[i]? = some u ∧ rep E w x u) →
     ∀ i ys, bd.at i = some ys → ∃ us : List Value, us.length = bd.sz ∧ reps E w ys us ∧ ∀ j u, us[j]? = some u → cs[i * bd.sz + j]? = some u) := by
 unfold litB at h
 split at h
 ·split at h
  rotate_left
  ·exact h.elim
  rename_i ns hns
  refine ⟨_, _, h, fun q => ?_⟩
  obtain ⟨q2, q3, q4⟩ := q
  refine ⟨by simpa [Bd.count] using q3, q4.symm, rfl, fun E w cs h4 h5 i ys hy => ?_⟩
  simp only [Bd.at, List.getElem?_map, Option.map_eq_some_iff] at hy
  obtain ⟨b, ⟨n, hn, rfl⟩, rfl⟩ := hy
  have hcell : cells[i]? = some (.val (.int .u8 n)) := by rw [intsOf_sound hns]; simp [hn]
  obtain ⟨u, hu, hru⟩ := h5 i _ hcell
  have hb := okBytes_sound q2 n (List.mem_of_getElem? hn)
  have hu2 : u = bv (UInt8.ofNat n.toNat) := by
   rw [rep_val hru]; unfold bv
   congr 1
   simp; omega
  refine ⟨[u], rfl, by simp only [reps, rep]; exact ⟨_, _, rfl, hu2, rfl⟩, fun j v hv => ?_⟩
  cases j with
  | zero => simp at hv; subst hv; simp only [Bd.sz, Nat.mul_one, Nat.add_zero]; exact hu
  | succ j => simp at hv
 ·rename_i k _ hk
  split at h
  rotate_left
  ·exact h.elim
  rename_i ns hns
  refine ⟨_, _, h, fun q => ?_⟩
  obtain ⟨q3, q4⟩ := q
  refine ⟨by simpa [Bd.count] using q3, q4.symm, rfl, fun E w cs h4 h5 i ys hy => ?_⟩
  simp only [Bd.at, Option.map_eq_some_iff] at hy
  obtain ⟨n, hn, rfl⟩ := hy
  have hcell : cells[i]? = some (.val (.int k n)) := by rw [intsOf_sound hns]; simp [hn]
  obtain ⟨u, hu, hru⟩ := h5 i _ hcell
  refine ⟨[u], rfl, by simp only [intF, reps]; exact ⟨_, _, rfl, hru, rfl⟩, fun j v hv => ?_⟩
  cases j with
  | zero => simp at hv; subst hv; simp only [Bd.sz, Nat.mul_one, Nat.add_zero]; exact hu
  | succ j => simp at hv
 ·refine ⟨_, _, h, fun q => ?_⟩
  refine ⟨by simp [Bd.count], rfl, rfl, fun E w cs h4 h5 i ys hy => ?_⟩
  simp only [Bd.at, Option.map_eq_some_iff] at hy
  obtain ⟨i', hi', rfl⟩ := hy
  have hlt : i < len := by have := (List.getElem?_eq_some_iff.1 hi').1; simpa using this
  rw [List.getElem?_range hlt] at hi'
  cases hi'
  have hle : (i + 1) * ei.sz ≤ len * ei.sz := Nat.mul_le_mul_right _ hlt
  rw [Nat.add_mul, Nat.one_mul] at hle
  rw [takeL_eq, dropL_eq]
  refine ⟨(cs.toList.drop (i * ei.sz)).take ei.sz, by simp [Bd.sz]; omega, reps_of (by simp; omega) (fun j x u hx hu => ?_), fun j u hu => ?_⟩
  ·rw [List.getElem?_take] at hx hu
   split at hx
   ·rename_i hj
    rw [if_pos hj] at hu
    rw [List.getElem?_drop] at hx hu
    obtain ⟨u', hu', hru⟩ := h5 _ _ hx
    have : cs[i * ei.sz + j]? = some u := by simpa using hu
    rw [this] at hu'; cases hu'; exact hru
   ·cases hx
  ·rw [List.getElem?_take] at hu
   split at hu
   ·rw [List.getElem?_drop] at hu; simpa [Bd.sz] using hu
   ·cases hu
def slT : Nat → Nat → Bool
 | 0, _ + 1 => true
 | _, _ => false
def sliceArrK (tb : TypeId → Option TI) (hg : Nat → Option Ent) (m : Nat) (El : TypeId) (x : AV) (lo hi : Option AV) (K : KF) : Prop := match tb El with
 | none => False
 | some ei => match x with
  | .ref r ver sz i j => match hg r with
   | none => False
   | some e => match e.bd with
    | .obj cells => match slT j sz with
     | true => litB ei m cells fun bd Ψ => bndK lo 0 fun l => bndK hi m fun h =>
      K (ver = e.ver ∧ Ψ ∧ i = 0 ∧ j = 0 ∧ cells.length = m * ei.sz ∧ m ≤ 140737488355328 ∧ 0 ≤ l ∧ l ≤ h ∧ h ≤ m) (.own r (e.ver + 1) ei.sz l.toNat (h.toNat - l.toNat)) [(r, ⟨e.ver + 1, bd⟩)]
     | false => bndK lo 0 fun l => bndK hi m fun h =>
      K (ver = e.ver ∧ i = 0 ∧ ei.sz = 1 ∧ j + m ≤ cells.length ∧ m ≤ 140737488355328 ∧ 0 ≤ l ∧ l ≤ h ∧ h ≤ m) (.own r ver 1 (j + l.toNat) (h.toNat - l.toNat)) []
    | _ => False
  | _ => False
theorem run_slice_arr {T E : TypeId} {ti : TI} {m : Nat} (hT : P.underlying T = some (.array m E)) (hE : TIok P E ti) {a : Addr} {l h : Nat} {lo hi : Option Value} (hl : isBound lo 0 l) (hh : isBound hi m h) (h1 : l ≤ h) (h2 : h ≤ m) (w : World) :
    (Instr.sliceAt T (.pointer (some a)) lo hi none).run P w = .ok (.slice (some (if m = l then a else a.add (l * ti.sz))) (h - l) (m - l)) w := by
 rcases hl with ⟨rfl, rfl⟩ | ⟨k, rfl⟩ <;> rcases hh with ⟨rfl, rfl⟩ | ⟨k', rfl⟩ <;>
  simp [Instr.sliceAt, Instr.sureAddr, Instr.sliceBounds, Instr.sliceBound, asIntOf, run_underlying hT, Sem.run_bind, hE.sizeOf, h1, h2]
theorem sliceArr_sound {tb : TypeId → Option TI} (htb : TbOk P tb) {T : TypeId} {x : Operand} {lo hi : Option Operand} (ho : o.op = .slice T x lo hi none) {m : Nat} {El : TypeId} (hT : P.underlying T = some (.array m El)) {K : KF} (h : sliceArrK tb hg m El (ev x) (lo.map ev) (hi.map ev) K) : ∃ Φ v us, K Φ v us ∧ Snd P o ev hg Φ v us := by
 unfold sliceArrK at h
 split at h
 ·exact h.elim
 rename_i ei hei
 have hE := htb El ei hei
 split at h
 rotate_left
 ·exact h.elim
 rename_i r ver sz i j hx
 split at h
 ·exact h.elim
 rename_i e he
 split at h
 rotate_left
 ·exact h.elim
 rename_i cells hb
 split at h
 rotate_left
 ·obtain ⟨l, h, hl⟩ := bndK_sound h
  obtain ⟨hh', h, hh1⟩ := bndK_sound h
  refine ⟨_, _, _, h, Snd.pure fun p E H w ρv hr hh hops => ?_⟩
  obtain ⟨p1, rfl, p3, p5, p6, p7, p8, p9⟩ := p
  rw [ho] at hops
  simp only [opnds] at hops
  have hv := hops x (by simp)
  rw [hx, rep] at hv
  have hH := hh r e he
  have hvr := p1.trans (hr.ver r e hH).symm
  have hpt := hv.2 hvr
  have hna : ¬ E.abs r := fun q => by have := hr.abs r e hH q; rw [hb] at this; simp [Bd.count] at this
  have hliv : Liv E r e := ⟨by rw [hb]; rfl, hna⟩
  obtain ⟨cur, T', lo', hi', h3, h4, h5, h6⟩ := (hr.ent r e hH hliv).blk (by rw [hb]; rfl)
  have hcl : cells.length ≤ cur.size := by rw [hb] at h5; simpa [Bd.count, Bd.sz] using h5
  rw [Nat.zero_mul, Nat.zero_add] at hpt
  have hrun := run_slice_arr hT hE (a := ⟨E.ρ r, j, none⟩) (hl E w ρv (fun y hy => hops y (by simp at hy ⊢; simp [hy])) p7) (hh1 E w ρv (fun y hy => hops y (by simp at hy ⊢; simp [hy])) (by omega)) (by omega) (by omega) w
  refine ⟨.slice (some (if m = l.toNat then ⟨E.ρ r, j, none⟩ else (Addr.add ⟨E.ρ r, j, none⟩ (l.toNat * ei.sz)))) (hh'.toNat - l.toNat) (m - l.toNat), ?_, ?_⟩
  ·unfold execOp
   simp only [ho, Sem.run_bind, Option.map_none, hpt]
   rw [hrun]
   simp only [Result.andThen_ok, Sem.run_pure]
  ·rw [rep]
   refine ⟨hv.1, fun _ => ⟨_, _, rfl, by omega, by unfold maxLen; omega, (fun q => by cases q), ?_⟩⟩
   by_cases hc0 : m = l.toNat
   ·left; omega
   ·refine .inr ⟨hna, ?_, cur, T', (lo', hi'), h3, by omega⟩
    rw [if_neg hc0, p3]; simp [Addr.add_lit]
 obtain ⟨bd, Ψ, h, hbd⟩ := litB_sound h
 obtain ⟨l, h, hl⟩ := bndK_sound h
 obtain ⟨hh', h, hh1⟩ := bndK_sound h
 refine ⟨_, _, _, h, fun p E H w ρv hr hh hops => ?_⟩
 obtain ⟨p1, p2, rfl, rfl, p5, p6, p7, p8, p9⟩ := p
 rw [ho] at hops
 simp only [opnds] at hops
 have hv := hops x (by simp)
 rw [hx, rep] at hv
 have hH := hh r e he
 have hpt := hv.2 (p1.trans (hr.ver r e hH).symm)
 have hna : ¬ E.abs r := fun q => by have := hr.abs r e hH q; rw [hb] at this; simp [Bd.count] at this
 have hliv : Liv E r e := ⟨by rw [hb]; rfl, hna⟩
 obtain ⟨cur, T', lo', hi', h3, h4, h5, h6⟩ := (hr.ent r e hH hliv).blk (by rw [hb]; rfl)
 obtain ⟨b1, b2, b3, b4⟩ := hbd p2
 have hcl : cells.length ≤ cur.size := by rw [hb] at h5; simpa [Bd.count, Bd.sz] using h5
 obtain ⟨cs, c1, c2, c3⟩ := h6 0 cells (by rw [hb]; simp [Bd.at])
 rw [Nat.zero_mul] at hpt
 simp only [Nat.zero_add, Nat.zero_mul] at c3
 have hrun := run_slice_arr hT hE (a := ⟨E.ρ r, 0 + 0, none⟩) (hl E w ρv (fun y hy => hops y (by simp at hy ⊢; simp [hy])) p7) (hh1 E w ρv (fun y hy => hops y (by simp at hy ⊢; simp [hy])) (by omega)) (by omega) (by omega) w
 have hex : (execOp ρv o).run P w = .ok (.value (.slice (some (if m = l.toNat then ⟨E.ρ r, 0 + 0, none⟩ else (Addr.add ⟨E.ρ r, 0 + 0, none⟩ (l.toNat * ei.sz)))) (hh'.toNat - l.toNat) (m - l.toNat))) w := by
  unfold execOp
  simp only [ho, Sem.run_bind, Option.map_none, hpt]
  rw [hrun]
  simp only [Result.andThen_ok, Sem.run_pure]
 refine ⟨_, w, E.set r (E.ρ r) (e.ver + 1), .inl hex, ?_, Out.one hr hH (Bd.isP_of_lpB (Bd.lpB_of b3)) (.inr (by omega)) (.inl ⟨rfl, hliv⟩) rfl rfl rfl (Nat.le_refl _) (fun k _ _ => rfl) (fun cur T fz h => ⟨cur, T, fz, h, Nat.le_refl _⟩) (fun X => ⟨fun _ => ⟨cur, T', lo', hi', h3, h4, ?_, fun i ys hy => ?_⟩, fun _ _ _ q => absurd q (Bd.not_lp (Bd.lpB_of b3))⟩)⟩
 ·rw [rep, Env.set_ver, Env.set_ρ]
  refine ⟨Nat.le_refl _, fun _ => ⟨_, _, rfl, by omega, by unfold maxLen; omega, (fun q => by cases q), ?_⟩⟩
  by_cases hc0 : m = l.toNat
  ·left; omega
  ·refine .inr ⟨Env.set_abs _ _ _ _, ?_, cur, T', (lo', hi'), h3, ?_⟩
   ·rw [if_neg hc0]; simp [Addr.add_lit]
   ·rw [show l.toNat + (m - l.toNat) = m by omega, ← p5]; exact hcl
 ·rw [b1, b2, ← p5]; exact hcl
 ·obtain ⟨us, k1, k2, k3⟩ := b4 E w cur (by rw [← p5]; exact hcl) (fun i x hx => by
    obtain ⟨u, hu, hru⟩ := (reps_get c2).2 i x hx
    exact ⟨u, c3 i u hu, hru⟩) i ys hy
  exact ⟨us, k1, reps_ext X _ _ k2, k3⟩
/-! a slice's room: of no slice -/
def capK (tb : TypeId → Option TI) (T : TypeId) (x : AV) (K : KF) : Prop := match tb T with
 | none => False
 | some ti => match ti.u with
  | .slice _ => match x with
   | .val (.slice none 0 0) => K True (.val (.int .i64 0)) []
   | _ => False
  | _ => False
theorem cap_sound {tb : TypeId → Option TI} (htb : TbOk P tb) {T : TypeId} {x : Operand} (ho : o.op = .call { callee := .builtin .cap, args := #[x], argTypes := #[T] }) {K : KF} (h : capK tb T (ev x) K) : ∃ Φ v us, K Φ v us ∧ Snd P o ev hg Φ v us := by
 unfold capK at h
 split at h
 ·exact h.elim
 rename_i ti hti
 have hT := (htb T ti hti).u
 split at h
 rotate_left
 ·exact h.elim
 rename_i E0 hu
 rw [hu] at hT
 have hT' : P.underlying T = some (.slice E0) := hT
 split at h
 rotate_left
 ·exact h.elim
 rename_i hx
 refine ⟨_, _, _, h, Snd.pure fun _ E H w ρv hr hh hops => ?_⟩
 rw [ho] at hops
 have hv := hops x (by simp [opnds])
 rw [hx] at hv
 have hv := rep_val hv
 refine ⟨.int .i64 0, ?_, by rw [rep]⟩
 unfold execOp
 simp [ho, resolve, invoke, builtin, hv, Builtin.cap_, goInt, run_underlying hT']
def bytesA (n : Nat) (l : List UInt8) : List AV := (List.range n).map fun i => .val (bv (l.getD i 0))
def toArrK (tb : TypeId → Option TI) (T : TypeId) (x : AV) (K : KF) : Prop := match tb T with
 | none => False
 | some ti => match ti.u with
  | .array n El => match tb El with
   | none => False
   | some ei => match ei.u with
    | .int .u8 => match x with
     | .bs z l => K (0 < n ∧ n ≤ l.length) (.cp z (bytesA n l) 0) []
     | _ => False
    | _ => False
  | _ => False
theorem reps_bytesA (E : Env) (w : World) (l : List UInt8) (n : Nat) : reps E w (bytesA n l) ((List.range n).map fun i => bv (l.getD i 0)) := by
 unfold bytesA
 generalize List.range n = r
 induction r with
 | nil => simp only [List.map_nil, reps]
 | cons x r ih => simp only [List.map_cons, reps, rep]; exact ⟨_, _, rfl, rfl, ih⟩
theorem toArr_sound {tb : TypeId → Option TI} (htb : TbOk P tb) {T : TypeId} {x : Operand} (ho : o.op = .sliceToArrayPointer T x) {K : KF} (h : toArrK tb T (ev x) K) : ∃ Φ v us, K Φ v us ∧ Snd P o ev hg Φ v us := by
 unfold toArrK at h
 repeat' (split at h; (first | exact h.elim | skip))
 all_goals (try exact h.elim)
 rename_i _ ti hti _ n El hu _ ei hei _ hE _ z l hx
 have hT := (htb T ti hti).u
 rw [hu] at hT
 have hT' : P.underlying T = some (.array n El) := hT
 refine ⟨_, _, _, h, Snd.pure fun p E H w ρv hr hh hops => ?_⟩
 have hv := hops x (by rw [ho]; simp [opnds])
 rw [hx, rep] at hv
 obtain ⟨a, m, c, h1, h2, h3, h4, h5, h6⟩ := hv
 refine ⟨.pointer a, exec_toArray ho hT' h1 (by omega), ?_⟩
 obtain ⟨b, o', q1, q2, q3⟩ := h6 0 (l.getD 0 0) (by rw [List.getD_eq_getElem?_getD, List.getElem?_eq_getElem (by omega)]; rfl)
 rw [rep]
 refine ⟨b, o', _, by rw [q1]; rfl, q2, reps_bytesA E w l n, fun j u hu => ?_⟩
 rw [List.getElem?_map] at hu
 obtain ⟨i, hi, rfl⟩ := Option.map_eq_some_iff.1 hu
 obtain ⟨hj, rfl⟩ := List.getElem?_eq_some_iff.1 hi
 simp only [List.length_range] at hj
 simp only [List.getElem_range]
 obtain ⟨b', o2, g1, g2, g3⟩ := h6 j (l.getD j 0) (by rw [List.getD_eq_getElem?_getD, List.getElem?_eq_getElem (by omega)]; rfl)
 rw [q1] at g1
 cases g1
 exact g3
def nilcK (tb : TypeId → Option TI) (op : BinOp) (T : TypeId) (x y : AV) (yo : Operand) (K : KF) (A : Prop) : Prop := match y with
 | .val .nilIface => match tb T with
  | some ti => match ti.u with
   | .iface => match x with
    | .ifc _ _ => nilTest op fun Φ v => K Φ v []
    | .val .nilIface => match yo with
     | .const _ => nilBoth op fun Φ v => K Φ v []
     | _ => False
    | _ => False
   | _ => False
  | none => False
 | .val .nilFunc => match tb T with
  | some ti => match ti.u with
   | .func => match x with
    | .clo _ _ => nilTest op fun Φ v => K Φ v []
    | .mth _ _ => nilTest op fun Φ v => K Φ v []
    | .val .nilFunc => nilBoth op fun Φ v => K Φ v []
    | _ => False
   | _ => False
  | none => False
 | _ => A
theorem nilc_sound {tb : TypeId → Option TI} (htb : TbOk P tb) {op : BinOp} {T T' : TypeId} {x y : Operand} (ho : o.op = .binOp op T x y T') {K : KF} {A : Prop} (h : nilcK tb op T (ev x) (ev y) y K A) : A ∨ ∃ Φ v us, K Φ v us ∧ Snd P o ev hg Φ v us := by
 have hops2 : ∀ {E : Env} {w : World} {ρv : Operand → Value}, (∀ x ∈ opnds o.op, rep E w (ev x) (ρv x)) → rep E w (ev x) (ρv x) ∧ rep E w (ev y) (ρv y) := by
  intro E w ρv hops
  rw [ho] at hops
  exact ⟨hops x (by simp [opnds]), hops y (by simp [opnds])⟩
 have fin : ∀ {b : Bool} {c : Value}, ev y = .val c → (∀ (E : Env) (w : World) (a : Value), rep E w (ev x) a → (op = .eql ∨ op = .neq) → (eqGuard op T x y a c).run P w = .ok () w ∧ (binOp .eql T a c).run P w = .ok (.bool b) w ∧ (binOp .neq T a c).run P w = .ok (.bool (!b)) w) →
     ((op = .eql ∧ K True (.val (.bool b)) []) ∨ (op = .neq ∧ K True (.val (.bool (!b))) [])) → ∃ Φ v us, K Φ v us ∧ Snd P o ev hg Φ v us := by
  intro b c hy hrun hK
  have key : ∀ E w (ρv : Operand → Value), (∀ x ∈ opnds o.op, rep E w (ev x) (ρv x)) → rep E w (ev x) (ρv x) ∧ ρv y = c := fun E w ρv hops => by
   obtain ⟨h1, h2⟩ := hops2 hops
   rw [hy] at h2
   exact ⟨h1, rep_val h2⟩
  rcases hK with ⟨e, hK⟩ | ⟨e, hK⟩
  ·refine ⟨True, _, [], hK, Snd.pure fun p E H w ρv hr hh hops => ?_⟩
   obtain ⟨h1, h2⟩ := key E w ρv hops
   obtain ⟨g1, g2, _⟩ := hrun E w _ h1 (.inl e)
   exact ⟨.bool b, run_binOp ho (by rw [h2]; exact g1) (by rw [h2, e]; exact g2), by rw [rep]⟩
  ·refine ⟨True, _, [], hK, Snd.pure fun p E H w ρv hr hh hops => ?_⟩
   obtain ⟨h1, h2⟩ := key E w ρv hops
   obtain ⟨g1, _, g2⟩ := hrun E w _ h1 (.inr e)
   exact ⟨.bool (!b), run_binOp ho (by rw [h2]; exact g1) (by rw [h2, e]; exact g2), by rw [rep]⟩
 have hT1 : ∀ {K : Prop → AV → Prop}, nilTest op K → (op = .eql ∧ K True (.val (.bool false))) ∨ (op = .neq ∧ K True (.val (.bool true))) := fun h => by
  unfold nilTest at h
  split at h
  ·exact .inl ⟨rfl, h⟩
  ·exact .inr ⟨rfl, h⟩
  ·exact h.elim
 have hT2 : ∀ {K : Prop → AV → Prop}, nilBoth op K → (op = .eql ∧ K True (.val (.bool true))) ∨ (op = .neq ∧ K True (.val (.bool false))) := fun h => by
  unfold nilBoth at h
  split at h
  ·exact .inl ⟨rfl, h⟩
  ·exact .inr ⟨rfl, h⟩
  ·exact h.elim
 have eqr : ∀ {a c : Value} {b : Bool} {w : World}, (∀ d : Nat, (Op.equalIn (d + 1) T a c).run P w = .ok b w) → binOp .eql T a c = (do pure (.bool (← Op.equal T a c))) → binOp .neq T a c = (do pure (.bool (!(← Op.equal T a c)))) → (binOp .eql T a c).run P w = .ok (.bool b) w ∧ (binOp .neq T a c).run P w = .ok (.bool (!b)) w := fun {a c b w} h0 h1 h2 => by
  have h : (Op.equal T a c).run P w = .ok b w := h0 9999
  rw [h1, h2]
  simp only [Sem.run_bind, h, Result.andThen_ok, Sem.run_pure, and_self]
 unfold nilcK at h
 split at h
 ·rename_i hy
  right
  split at h
  rotate_left
  ·exact h.elim
  rename_i ti hti
  split at h
  rotate_left
  ·exact h.elim
  rename_i hu
  have hT := (htb T ti hti).u
  rw [hu] at hT
  obtain ⟨ms, hT⟩ := hT
  split at h
  ·rename_i t u hx
   refine fin (b := false) hy (fun E w a h1 hop => ?_) (hT1 h)
   rw [hx, rep] at h1
   obtain ⟨v, rfl, _⟩ := h1
   obtain ⟨g1, g2⟩ := eqr (a := .iface t v) (c := .nilIface) (b := false) (w := w) (fun d => by simp [Op.equalIn, run_underlying hT]) (by simp only [binOp]) (by simp only [binOp])
   exact ⟨by rcases hop with e | e <;> (subst e; rfl), g1, g2⟩
  ·rename_i hx
   split at h
   ·rename_i cv
    refine fin (b := true) hy (fun E w a h1 hop => ?_) (hT2 h)
    rw [hx] at h1
    obtain rfl := rep_val h1
    obtain ⟨g1, g2⟩ := eqr (a := .nilIface) (c := .nilIface) (b := true) (w := w) (fun d => by simp [Op.equalIn, run_underlying hT]) (by simp only [binOp]) (by simp only [binOp])
    refine ⟨?_, g1, g2⟩
    rcases hop with e | e <;> (subst e; simp [eqGuard])
   ·exact h.elim
  ·exact h.elim
 ·rename_i hy
  right
  split at h
  rotate_left
  ·exact h.elim
  rename_i ti hti
  split at h
  rotate_left
  ·exact h.elim
  rename_i hu
  have hT := (htb T ti hti).u
  rw [hu] at hT
  obtain ⟨q1, q2, q3, hT⟩ := hT
  split at h
  ·rename_i f l hx
   refine fin (b := false) hy (fun E w a h1 hop => ?_) (hT1 h)
   rw [hx, rep] at h1
   obtain ⟨v, rfl, _⟩ := h1
   obtain ⟨g1, g2⟩ := eqr (a := .func (.func f) #[] v.toArray) (c := .nilFunc) (b := false) (w := w) (fun d => by simp [Op.equalIn, run_underlying hT]) (by simp only [binOp]) (by simp only [binOp])
   exact ⟨by rcases hop with e | e <;> (subst e; rfl), g1, g2⟩
  ·rename_i f l hx
   refine fin (b := false) hy (fun E w a h1 hop => ?_) (hT1 h)
   rw [hx, rep] at h1
   obtain ⟨v, rfl, _⟩ := h1
   obtain ⟨g1, g2⟩ := eqr (a := .func (.func f) v.toArray #[]) (c := .nilFunc) (b := false) (w := w) (fun d => by simp [Op.equalIn, run_underlying hT]) (by simp only [binOp]) (by simp only [binOp])
   exact ⟨by rcases hop with e | e <;> (subst e; rfl), g1, g2⟩
  ·rename_i hx
   refine fin (b := true) hy (fun E w a h1 hop => ?_) (hT2 h)
   rw [hx] at h1
   obtain rfl := rep_val h1
   obtain ⟨g1, g2⟩ := eqr (a := .nilFunc) (c := .nilFunc) (b := true) (w := w) (fun d => by simp [Op.equalIn, run_underlying hT]) (by simp only [binOp]) (by simp only [binOp])
   exact ⟨by rcases hop with e | e <;> (subst e; rfl), g1, g2⟩
  ·exact h.elim
 ·exact .inl h
theorem mth_sound {f : FuncId} {first : Array Operand} (ho : o.op = .makeFunc (.func f) first #[]) {K : KF} (h : K True (.mth f (first.toList.map ev)) []) : ∃ Φ v us, K Φ v us ∧ Snd P o ev hg Φ v us := by
 refine ⟨_, _, _, h, Snd.pure fun p E H w ρv hr hh hops => ?_⟩
 refine ⟨.func (.func f) (first.map ρv) #[], ?_, ?_⟩
 ·unfold execOp
  simp [ho, Instr.makeFunc, Sem.run_pure]
 ·rw [rep]
  refine ⟨first.toList.map ρv, by congr 1; apply Array.ext'; simp, reps_map _ (fun x hx => hops x (by rw [ho]; simp only [opnds, List.append_nil]; exact hx))⟩
def mapK (hg : Nat → Option Ent) (p : Nat) (o : Oper) (K : KF) : Prop := match o.dst with
 | none => False
 | some d => match hg (p + d) with
  | none => False
  | some e => K True (.mp (p + d) (e.ver + 1)) [(p + d, ⟨e.ver + 1, .dead⟩)]
theorem map_sound {p : Nat} {T : TypeId} (ho : o.op = .makeMap T none) {K : KF} (h : mapK hg p o K) : ∃ Φ v us, K Φ v us ∧ Snd P o ev hg Φ v us := by
 unfold mapK at h
 split at h
 ·exact h.elim
 rename_i d hd
 split at h
 ·exact h.elim
 rename_i e he
 refine ⟨_, _, _, h, fun p' E H w ρv hr hh hops => ⟨.map (some w.heap.size), w.alloc (.map #[] 0), E.set (p + d) w.heap.size (e.ver + 1), .inl ?_, ?_, Out.one hr (hh _ _ he) rfl (.inr (by omega)) (.inr (Nat.le_refl _)) rfl rfl rfl (by simp) (fun k hk _ => Below.heap_alloc _ _ _ hk) (fun cur T fz h => ?_) (fun X => ⟨fun q => by (cases q), fun _ _ _ e => by (cases e)⟩)⟩⟩
 ·unfold execOp
  simp only [ho]
  rfl
 ·rw [rep, Env.set_ver, Env.set_ρ]
  exact ⟨Nat.le_refl _, fun _ => rfl⟩
 ·have := (Array.getElem?_eq_some_iff.1 h).1; omega
def ifcK (tb : TypeId → Option TI) (T : TypeId) (x : AV) (K : KF) : Prop := match tb T with
 | none => False
 | some ti => match ti.u with
  | .other => False
  | .iface => False
  | _ => K True (.ifc T x) []
theorem ifc_sound {tb : TypeId → Option TI} (htb : TbOk P tb) {T : TypeId} {x : Operand} (ho : o.op = .makeInterface T x) {K : KF} (h : ifcK tb T (ev x) K) : ∃ Φ v us, K Φ v us ∧ Snd P o ev hg Φ v us := by
 unfold ifcK at h
 split at h
 ·exact h.elim
 rename_i ti hti
 have hu := (htb T ti hti).u
 have key : ∀ t, P.underlying T = some t → (∀ l, t ≠ .interface l) → K True (.ifc T (ev x)) [] → ∃ Φ v us, K Φ v us ∧ Snd P o ev hg Φ v us := fun t ht hn h => by
  refine ⟨_, _, _, h, Snd.pure fun p E H w ρv hr hh hops => ⟨.iface T (ρv x), ?_, ?_⟩⟩
  ·unfold execOp
   simp only [ho, Instr.makeInterface]
   cases t <;> first | exact absurd rfl (hn _) | simp [run_underlying ht]
  ·rw [rep]
   exact ⟨_, rfl, hops x (by rw [ho]; simp [opnds])⟩
 split at h
 ·exact h.elim
 ·exact h.elim
 rename_i hne hni
 cases hk : ti.u <;> rw [hk] at hu <;> simp only [UK.ok] at hu
 case other => exact absurd hk hne
 case iface => exact absurd hk hni
 case struct => obtain ⟨_, h1, _⟩ := hu; exact key _ h1 (fun _ q => by cases q) h
 case func => obtain ⟨_, _, _, h1⟩ := hu; exact key _ h1 (fun _ q => by cases q) h
 all_goals exact key _ hu (fun _ q => by cases q) h
def stepK (tb : TypeId → Option TI) (p : Nat) (o : Oper) (ev : Operand → AV) (hg : Nat → Option Ent) (K : KF) : Prop := match o.op with
 | .move x => K True (ev x) []
 | .assign x => K True (ev x) []
 | .alloc T => allocK tb hg p o T K
 | .box _ x => boxK hg p o (ev x) K
 | .build T ps => buildK tb hg T (ps.toList.map fun q => (q.1, ev q.2)) K
 | .buildSlice T n ps => buildSliceK tb hg p o T n (ps.toList.map fun q => (q.1, ev q.2)) K
 | .load T x => loadK tb hg T (ev x) K
 | .store T x y => storeK tb hg T (ev x) (ev y) K
 | .nilCheck x => nilK hg (ev x) K
 | .binOp op T x y _ => nilcK tb op T (ev x) (ev y) y K (binK tb hg op T (ev x) (ev y) K)
 | .unOp op _ x => unK op (ev x) K
 | .convert S T x => convAllK tb hg p o S T (ev x) K
 | .makeFunc fn first caps => match fn with
  | .func f => match first.toList with
   | [] => K True (.clo f (caps.toList.map ev)) []
   | _ => match caps.toList with
    | [] => K True (.mth f (first.toList.map ev)) []
    | _ => False
  | _ => False
 | .makeSlice T x y => makeSliceK tb hg p o T (ev x) (ev y) K
 | .slice T x lo hi mx => match mx with
  | none => match tb T with
   | some ⟨.array m El, _, _, _, _⟩ => sliceArrK tb hg m El (ev x) (lo.map ev) (hi.map ev) K
   | _ => sliceK tb hg T (ev x) (lo.map ev) (hi.map ev) K
  | some m => match hi with
   | some h => slice3K tb hg T (ev x) (lo.map ev) (ev h) (ev m) K
   | none => False
 | .fieldAddr T x k => fieldAddrK tb hg T (ev x) k K
 | .field T x k => fieldK tb T (ev x) k K
 | .indexAddr T x y => indexAddrK tb hg T (ev x) (ev y) K
 | .index T x y => indexK tb T (ev x) (ev y) K
 | .extract x i => extractK (ev x) i K
 | .sliceToArrayPointer T x => toArrK tb T (ev x) K
 | .makeInterface T x => ifcK tb T (ev x) K
 | .makeMap T r => match r with
  | none => mapK hg p o K
  | some _ => False
 | .call c => match c.callee with
  | .builtin b => match b with
   | .len => match c.args.toList with
    | [x] => match c.argTypes.toList with
     | [T] => lenK (hg := hg) tb T (ev x) K
     | _ => False
    | _ => False
   | .cap => match c.args.toList with
    | [x] => match c.argTypes.toList with
     | [T] => capK tb T (ev x) K
     | _ => False
    | _ => False
   | .append => match c.args.toList with
    | [s, x] => match c.argTypes.toList with
     | [T, Tx] => appK tb hg p o T Tx (ev s) (ev x) K
     | _ => False
    | _ => False
   | .copy => match c.args.toList with
    | [x, y] => match c.argTypes.toList with
     | [T, _] => copyK tb hg T (ev x) (ev y) K
     | _ => False
    | _ => False
   | .min => match c.args.toList with
    | [x, y] => min2K false (ev x) (ev y) K
    | _ => False
   | .max => match c.args.toList with
    | [x, y] => min2K true (ev x) (ev y) K
    | _ => False
   | .clear => match c.args.toList with
    | [x] => match c.argTypes.toList with
     | [T] => clearK tb hg T (ev x) K
     | _ => False
    | _ => False
   | _ => False
  | _ => False
 | _ => False
theorem stepK_sound {tb : TypeId → Option TI} (htb : TbOk P tb) {p : Nat} {K : KF} (h : stepK tb p o ev hg K) : ∃ Φ v us, K Φ v us ∧ Snd P o ev hg Φ v us := by
 unfold stepK at h
 split at h
 case h_1 x ho => exact move_sound (.inl ho) h
 case h_2 x ho => exact move_sound (.inr ho) h
 case h_3 T ho => exact alloc_sound htb ho h
 case h_4 T x ho => exact box_sound ho h
 case h_5 T ps ho => exact build_sound htb ho h
 case h_6 T n ps ho => exact buildSlice_sound htb ho h
 case h_7 T x ho => exact load_sound htb ho h
 case h_8 T x y ho => exact store_sound htb ho h
 case h_9 x ho => exact nil_sound ho h
 case h_10 op T x y T' ho => exact (nilc_sound htb ho h).elim (bin_sound htb ho) id
 case h_11 op T x ho => exact un_sound ho h
 case h_12 S T x ho => exact convAll_sound htb ho h
 case h_13 fn first caps ho =>
  split at h
  ·split at h
   ·rename_i f hf
    have : first = #[] := by cases first; simp_all
    subst this
    exact makeFunc_sound ho h
   ·split at h
    ·rename_i hc
     have : caps = #[] := by cases caps; simp_all
     subst this
     exact mth_sound ho h
    ·exact h.elim
  ·exact h.elim
 case h_14 T x y ho => exact makeSlice_sound htb ho h
 case h_15 T x lo hi mx ho =>
  split at h
  ·split at h
   ·rename_i hti
    exact sliceArr_sound htb ho (htb _ _ hti).u h
   ·exact slice_sound htb ho h
  ·split at h
   ·exact slice3_sound htb ho h
   ·exact h.elim
 case h_16 T x k ho => exact fieldAddr_sound htb ho h
 case h_17 T x k ho => exact field_sound htb ho h
 case h_18 T x y ho => exact indexAddr_sound htb ho h
 case h_19 T x y ho => exact index_sound htb ho h
 case h_20 x i ho => exact extract_sound ho h
 case h_21 T x ho => exact toArr_sound htb ho h
 case h_22 T x ho => exact ifc_sound htb ho h
 case h_23 T r ho =>
  split at h
  ·exact map_sound ho h
  ·exact h.elim
 case h_24 c ho =>
  obtain ⟨cal, args, ts⟩ := c
  have ea : ∀ {α : Type} {a : Array α} {l : List α}, a.toList = l → a = l.toArray := by intro α a l h; cases a; simp_all
  simp only at h
  split at h
  rotate_left
  ·exact h.elim
  split at h
  ·split at h
   ·rename_i ha
    split at h
    ·rename_i ht
     exact len_sound htb (by rw [ho, ea ha, ea ht]) h
    ·exact h.elim
   ·exact h.elim
  ·split at h
   ·rename_i ha
    split at h
    ·rename_i ht
     exact cap_sound htb (by rw [ho, ea ha, ea ht]) h
    ·exact h.elim
   ·exact h.elim
  ·split at h
   ·rename_i ha
    split at h
    ·rename_i ht
     exact app_sound htb (by rw [ho, ea ha, ea ht]) h
    ·exact h.elim
   ·exact h.elim
  ·split at h
   ·rename_i ha
    split at h
    ·rename_i ht
     exact copy_sound htb (by rw [ho, ea ha, ea ht]) h
    ·exact h.elim
   ·exact h.elim
  ·split at h
   ·rename_i ha
    exact min2_sound (mx := false) (ts := ts) (by rw [ho, ea ha]; rfl) h
   ·exact h.elim
  ·split at h
   ·rename_i ha
    exact min2_sound (mx := true) (ts := ts) (by rw [ho, ea ha]; rfl) h
   ·exact h.elim
  ·split at h
   ·rename_i ha
    split at h
    ·rename_i ht
     exact clear_sound htb (by rw [ho, ea ha, ea ht]) h
    ·exact h.elim
   ·exact h.elim
  ·exact h.elim
 all_goals exact h.elim
end
end Go.Proofs.YtmjpbmcbcppkfaaGreatDoor

/-! Abstract values: whole functions: regions in the order of the text, code, loops. Conditions: what 'TIok' says of the types. -/
namespace Go.Proofs.YtmjpbmcbcppkfaaGreatDoor
set_option linter.unusedVariables false
set_option linter.unusedSimpArgs false
open Go.RowKit
structure St : Type 1 where
 t : List AV
 H : List Ent
structure Bs where
 keep : Nat → Prop
 E0 : Env
 old : Nat → Prop
 pure : Prop
def mark (D : Nat) : Deferred := { target := .collected D, args := #[] }
def Marks (n : Nat) (E : Env) (w : World) (ds : List Deferred) : Prop := ∃ Ds : List Nat, ds = Ds.map mark ∧ Ds.Nodup ∧ ∀ D ∈ Ds, n ≤ D ∧ (∃ z, E.zone z D) ∧ w.heap[D]? = some (.deferred (some []))
theorem Marks.ext {n : Nat} {E E' : Env} {w w' : World} {ds : List Deferred} (X : Ext E E' w w') (h : Marks n E w ds) : Marks n E' w' ds := by
 obtain ⟨Ds, h1, h2, h3⟩ := h
 refine ⟨Ds, h1, h2, fun D hD => ?_⟩
 obtain ⟨h4, ⟨z, h5⟩, h6⟩ := h3 D hD
 exact ⟨h4, ⟨z, X.zone z D h5⟩, (X.cell z D h5).trans h6⟩
theorem Marks.nil (n : Nat) (E : Env) (w : World) : Marks n E w [] := ⟨[], rfl, List.nodup_nil, by simp⟩
structure Rel (w0 : World) (keep : Bs) (E : Env) (s : St) (a : Act) (w : World) : Prop where
 len : s.t.length = a.tmps.size
 tmps : ∀ (i : Nat) (x : AV), s.t[i]? = some x → rep E w x (a.tmps.getD i undef)
 defers : (keep.pure → a.defers = []) ∧ Marks w0.heap.size E w a.defers
 hr : HR E w s.H
 fr : Fr w0 keep.keep E s.H w
 ext : Ext keep.E0 E w0 w
 zone : ∀ z b, E.zone z b → keep.E0.zone z b ∨ w0.heap.size ≤ b ∨ keep.old b
 rows : ∀ (r : Nat) (e : Ent) (b : Nat), s.H[r]? = some e → Blk E r e b → w0.heap.size ≤ b ∨ keep.old b
def constA : Value → AV
 | .agg cs => .agg (cs.toList.map .val)
 | .tuple cs => .tup (cs.toList.map .val)
 | v => .val v
theorem rep_const (E : Env) (w : World) (v : Value) : rep E w (constA v) v := by
 cases v <;> simp only [constA, rep]
 ·exact ⟨_, by simp, reps_vals _⟩
 ·exact ⟨_, by simp, reps_vals _⟩
def gpA : AV → Prop
 | .gd φ _ => φ
 | _ => True
def unA : AV → AV
 | .gd _ x => x
 | x => x
theorem rep_un {E : Env} {w : World} {x : AV} {v : Value} (h : rep E w x v) (hg : gpA x) : rep E w (unA x) v := by
 cases x <;> simp only [unA] <;> try exact h
 rw [rep] at h; exact h.1 hg
def glA (g : Nat) : AV := match laidG g with
 | some cs => .cp 0 (cs.map .val) 0
 | none => .any
theorem glA_rep {E : Env} {w : World} (h : Gl E w) (g : Nat) : rep E w (glA g) (.pointer (some ⟨g, 0, none⟩)) := by
 unfold glA
 split
 ·rename_i cs hg
  obtain ⟨h1, h2⟩ := h g cs hg
  rw [rep]
  exact ⟨g, 0, cs, rfl, h1, reps_vals cs, fun j u hu => by rw [Nat.zero_add]; exact h2 j u hu⟩
 ·rw [rep]; trivial
def evA (t : List AV) : Operand → AV
 | .tmp i => unA (getA t i)
 | .const v => constA v
 | .func f => .clo f []
 | .global g => glA g
def gpO (t : List AV) : Operand → Prop
 | .tmp i => gpA (getA t i)
 | _ => True
def gpOs (t : List AV) : List Operand → Prop
 | [] => True
 | x :: xs => gpO t x ∧ gpOs t xs
def setD (t : List AV) : Option Tmp → AV → List AV
 | none, _ => t
 | some d, v => setL t d v
section
variable {P : Program} {w0 : World} {keep : Bs}
theorem Rel.get {E : Env} {s : St} {a : Act} {w : World} (h : Rel w0 keep E s a w) (i : Nat) : rep E w (getA s.t i) (a.tmps.getD i undef) := by
 unfold getA
 rw [getL_eq]
 cases hi : s.t[i]? with
 | none => simp only [rep]
 | some x => exact h.tmps i x hi
theorem Rel.opnd {E : Env} {s : St} {a : Act} {w : World} (h : Rel w0 keep E s a w) {x : Operand} (hx : gpO s.t x) : rep E w (evA s.t x) (a.eval x) := by
 cases x with
 | tmp i => exact rep_un (h.get i) hx
 | const v => exact rep_const E w v
 | func f => simp only [evA, rep, Act.eval]; exact ⟨[], rfl, by simp [reps]⟩
 | global g => exact glA_rep h.hr.gl g
theorem gpOs_mem {t : List AV} : ∀ {xs : List Operand}, gpOs t xs → ∀ x ∈ xs, gpO t x
 | y :: xs, h, x, hx => by
  rcases List.mem_cons.1 hx with rfl | hx
  ·exact h.1
  ·exact gpOs_mem h.2 x hx
theorem Rel.put {E E' : Env} {s : St} {a : Act} {w w' : World} (h : Rel w0 keep E s a w) {us : List (Nat × Ent)} (o : Out E E' w w' s.H us) {dst : Option Tmp} {x : AV} {v : Value} (hv : rep E' w' x v) : Rel w0 keep E' ⟨setD s.t dst x, updH s.H us⟩ (a.put dst v) w' := by
 refine ⟨?_, ?_, ?_, o.hr, h.fr.out o, h.ext.trans o.ext, fun z b hz => ?_, fun r e b hr hl => ?_⟩
 ·cases dst <;> simp [setD, Act.put, setL_eq, h.len]
 ·intro i y hy
  cases dst with
  | none => exact rep_ext o.ext y _ (h.tmps i y hy)
  | some d =>
   simp only [setD, setL_eq] at hy
   by_cases hi : d = i
   ·subst hi
    have hlt : d < s.t.length := by have := (List.getElem?_eq_some_iff.1 hy).1; simpa using this
    rw [List.getElem?_set_self hlt] at hy
    cases hy
    have : d < a.tmps.size := by rw [← h.len]; exact hlt
    rw [put_same a v this]; exact hv
   ·rw [List.getElem?_set_ne hi] at hy
    rw [put_other a v (by simp; exact hi)]
    exact rep_ext o.ext y _ (h.tmps i y hy)
 ·cases dst <;> exact ⟨h.defers.1, h.defers.2.ext o.ext⟩
 ·rcases o.zone z b hz with h1 | h1 | ⟨r0, e0, h2, h3⟩
  ·exact h.zone z b h1
  ·have := h.fr.size; right; left; omega
  ·rcases h.rows r0 e0 b h2 h3 with h4 | h4
   ·exact .inr (.inl h4)
   ·exact .inr (.inr h4)
 ·rcases o.rows r e b hr hl with h1 | ⟨r0, e0, h2, h3, _⟩
  ·have := h.fr.size; left; omega
  ·exact h.rows r0 e0 b h2 h3

/-! calls -/
def CallW (P : Program) (f : FuncId) (as : Array Value) (w : World) (R : Value → World → Prop) : Prop :=
 ((callFunc f as).run P w = .ok (.enter f as) w ∧ Calls P f as w fun e w' => ∃ v, e = .returned v ∧ R v w') ∨
 ∃ v w', (callFunc f as).run P w = .ok (.value v) w' ∧ R v w'
def CallSem (P : Program) (f : FuncId) (args : List AV) (hg : Nat → Option Ent) (post : AV → List (Nat × Ent) → Prop) : Prop :=
 ∀ (E : Env) (H : List Ent) (w : World) (cargs : List Value), HR E w H → (∀ (r : Nat) (e : Ent), hg r = some e → H[r]? = some e) → reps E w args cargs →
  CallW P f cargs.toArray w fun v w' => ∃ x us E', post x us ∧ rep E' w' x v ∧ Out E E' w w' H us
theorem wp_callW {P : Program} {o : Oper} {c : Call} {f : Operand} (ho : o.op = .call c) (hc : c.callee = .value f) {a : Act} {fn : FuncId} {fs cs : List Value} (hfv : a.eval f = .func (.func fn) fs.toArray cs.toArray) {w : World} {R : Value → World → Prop}
    (h : CallW P fn (fs ++ c.args.toList.map a.eval ++ cs).toArray w R) {K : Act → World → Prop} {Q : Exit → Act → World → Prop} (hK : ∀ v w', R v w' → K (a.put o.dst v) w') : o.wp P a w K Q := by
 have e1 : execOp a.eval o = callFunc fn (fs ++ c.args.toList.map a.eval ++ cs).toArray := by
  have e2 : execOp a.eval o = callFunc fn (fs.toArray ++ c.args.map a.eval ++ cs.toArray) := by
   obtain ⟨dst, op, type, pos, after, guard⟩ := o
   simp only at ho
   subst ho
   obtain ⟨cal, args, ts⟩ := c
   simp only at hc
   subst hc
   unfold execOp
   simp only [resolve, hfv]
   rfl
  rw [e2]
  congr 1
  apply Array.ext'
  simp
 rcases h with ⟨h1, h2⟩ | ⟨v, w', h1, h2⟩
 ·unfold Oper.wp
  rw [e1, h1]
  refine Calls.mono h2 fun e w' ⟨v, he, hr⟩ => ?_
  subst he
  exact hK v w' hr
 ·exact wp_val (by rw [e1, h1]) (hK v w' h2)
@[irreducible] def callK (P : Program) (x : AV) (args : List AV) (hg : Nat → Option Ent) (K : AV → List (Nat × Ent) → Prop) : Prop :=
 ∃ f caps, x = .clo f caps ∧ ∃ post, CallSem P f (args ++ caps) hg post ∧ ∀ v us, post v us → K v us
def contU (s : St) (dst : Option Tmp) (K : St → Prop) (v : AV) (us : List (Nat × Ent)) : Prop := K ⟨setD s.t dst v, updH s.H us⟩

def FR (r : Option Nat) : Fence := { Fence.wide with round := r }
def OkO (r : Option Nat) (o : Oper) : Prop := r = none ∨ ∀ c, o.op ≠ .defer c
def owp (P : Program) (o : Oper) (a : Act) (w : World) (K : Act → World → Prop) (Q : Exit → Act → World → Prop) : Prop := ∀ (r : Option Nat) (n : Nat), OkO r o → o.wpIn (FR r) n P a w K Q
theorem semAt_ok {r : Option Nat} {o : Oper} (h : OkO r o) (ρ : Operand → Value) : o.semAt r ρ = execOp ρ o := by
 rcases h with rfl | h
 ·rfl
 ·exact Oper.semAt_plain (FR r) ρ o h
theorem owp_of {P : Program} {o : Oper} {a : Act} {w : World} {K : Act → World → Prop} {Q : Exit → Act → World → Prop} (h : o.wp P a w K Q) : owp P o a w K Q := by
 intro r n ho
 refine ⟨fun _ _ => trivial, ?_⟩
 have e : o.semAt (FR r).round a.eval = execOp a.eval o := semAt_ok ho _
 rw [e]
 unfold Oper.wp at h
 generalize (execOp a.eval o).run P w = res at h ⊢
 cases res with
 | ok nx w' =>
  cases nx <;> first | exact h | exact h.elim | skip
  ·exact ⟨fun q => (by cases q), callsIn_wide.2 h⟩
  ·refine ⟨fun q => (by cases q), fun c cs _ => ?_⟩
   obtain ⟨v, w'', h1, h2⟩ := h c cs
   exact ⟨v, w'', h1, stepsIn_wide.2 h2⟩
 | halt hh w' => cases hh <;> first | exact h | exact h.elim
def YieldW (P : Program) (r : Option Nat) (n : Nat) (l : Nat) (as : Array Value) (w : World) (R : Value → World → Prop) : Prop :=
 ∃ fn tmps asn body, (Instr.yield l as).run P w = .ok (.round l fn tmps asn body) w ∧ RoundIn (FR r) n P l fn tmps asn body w fun e w' => ∃ v, e = .returned v ∧ R v w'
def YieldSem (P : Program) (rw : Nat) (args : List AV) (H : List Ent) (post : AV → List (Nat × Ent) → Prop) : Prop :=
 ∀ (E : Env) (w : World) (cargs : List Value), HR E w H → reps E w args cargs →
  ∀ (r : Option Nat) (n : Nat), YieldW P r n (E.ρ rw) cargs.toArray w fun v w' => ∃ x us E', post x us ∧ rep E' w' x v ∧ Out E E' w w' H us
@[irreducible] def yieldK (P : Program) (rw ver : Nat) (args : List AV) (H : List Ent) (K : AV → List (Nat × Ent) → Prop) : Prop :=
 (∃ e, getL H rw = some e ∧ e.ver = ver) ∧ ∃ post, YieldSem P rw args H post ∧ ∀ v us, post v us → K v us
def callU (P : Program) (c : Call) (f : Operand) (s : St) (K : AV → List (Nat × Ent) → Prop) : Prop := match evA s.t f with
 | .yld rw ver => yieldK P rw ver (c.args.toList.map (evA s.t)) s.H K
 | .mth g l => callK P (.clo g []) (l ++ c.args.toList.map (evA s.t)) (getL s.H) K
 | x => callK P x (c.args.toList.map (evA s.t)) (getL s.H) K
theorem callU_or {P : Program} {c : Call} {f : Operand} {s : St} {K : AV → List (Nat × Ent) → Prop} (h : callU P c f s K) : (∃ rw ver, evA s.t f = .yld rw ver ∧ yieldK P rw ver (c.args.toList.map (evA s.t)) s.H K) ∨ (∃ g l, evA s.t f = .mth g l ∧ callK P (.clo g []) (l ++ c.args.toList.map (evA s.t)) (getL s.H) K) ∨ callK P (evA s.t f) (c.args.toList.map (evA s.t)) (getL s.H) K := by
 unfold callU at h
 split at h
 ·rename_i rw ver he
  exact .inl ⟨rw, ver, he, h⟩
 ·rename_i g l he
  exact .inr (.inl ⟨g, l, he, h⟩)
 ·exact .inr (.inr h)

/-! one operation -/
def pickB (a b : Operand) (q x y : Bool) : Bool := match a with
 | .const (.bool true) => q || y
 | _ => match b with
  | .const (.bool false) => q && x
  | _ => (q && x) || (!q && y)
def pickK (t : List AV) (c a b : Operand) (K : Prop → AV → Prop) : Prop := match evA t c with
 | .val (.bool q) => match evA t b with
  | .any => K (gpO t c ∧ q = true ∧ gpO t a) (evA t a)
  | .val (.bool y) => match evA t a with
   | .val (.bool x) => K (gpO t c ∧ (q = true → gpO t a) ∧ (q = false → gpO t b)) (.val (.bool (pickB a b q x y)))
   | .any => K (gpO t c ∧ q = false ∧ gpO t b) (evA t b)
   | _ => False
  | _ => False
 | _ => False
def stepU (tb : TypeId → Option TI) (p : Nat) (o : Oper) (s : St) (K : St → Prop) : Prop :=
 gpOs s.t (opnds o.op) ∧ stepK tb p o (evA s.t) (getL s.H) fun Φ v us => Φ ∧ K ⟨setD s.t o.dst v, updH s.H us⟩
def nilB (tb : TypeId → Option TI) (hg : Nat → Option Ent) (T : TypeId) (x y : AV) (A : Prop) (K : Prop → Nat → Prop) : Prop := match y with
 | .val (.slice none 0 0) => match tb T with
  | some ti => match ti.u with
   | .slice _ => match x with
    | .own r ver sz off n => curK hg r ver fun Ψ => K Ψ n
    | .bs _ l => K True l.length
    | .sl _ _ _ _ l => K True l.length
    | _ => A
   | _ => A
  | none => A
 | _ => A
def allB (n : Nat) (K : Bool → Prop) : Prop := ∀ b : Bool, (b = true → n = 0) → K b
def opU (tb : TypeId → Option TI) (P : Program) (p : Nat) (o : Oper) (s : St) (K : St → Prop) : Prop := match o.op with
 | .call c => match c.callee with
  | .value f => gpOs s.t (opnds o.op) ∧ callU P c f s (contU s o.dst K)
  | _ => stepU tb p o s K
 | .pick c a b => pickK s.t c a b fun Φ v => Φ ∧ K ⟨setD s.t o.dst v, s.H⟩
 | .binOp op T x y _ => match op with
  | .eql => nilB tb (getL s.H) T (evA s.t x) (evA s.t y) (stepU tb p o s K) fun Φ n => (gpOs s.t (opnds o.op) ∧ Φ) ∧ allB n fun b => K ⟨setD s.t o.dst (.val (.bool b)), s.H⟩
  | .neq => nilB tb (getL s.H) T (evA s.t x) (evA s.t y) (stepU tb p o s K) fun Φ n => (gpOs s.t (opnds o.op) ∧ Φ) ∧ allB n fun b => K ⟨setD s.t o.dst (.val (.bool (!b))), s.H⟩
  | _ => stepU tb p o s K
 | _ => stepU tb p o s K
def anyG (t : List AV) : List Operand → Prop → Prop → Prop
 | [], _, B => B
 | x :: xs, A, B => match x with
  | .tmp i => match getA t i with
   | .gd _ y => match y with
    | .any => A
    | _ => anyG t xs A B
   | _ => anyG t xs A B
  | _ => anyG t xs A B
theorem anyG_or {t : List AV} {A B : Prop} : ∀ {l : List Operand}, anyG t l A B → A ∨ B
 | [], h => .inr h
 | x :: xs, h => by
  unfold anyG at h
  split at h
  ·split at h
   ·split at h
    ·exact .inl h
    ·exact anyG_or h
   ·exact anyG_or h
  ·exact anyG_or h
def gdU (G A : Prop) (s : St) (dst : Option Tmp) (K : St → Prop) (Φ : Prop) (v : AV) (us : List (Nat × Ent)) : Prop := match us with
 | [] => (G → A ∧ Φ) ∧ us = [] ∧ K ⟨setD s.t dst (.gd G v), s.H⟩
 | _ :: _ => (G → (A ∧ Φ) ∧ K ⟨setD s.t dst v, updH s.H us⟩) ∧ (¬ G → K ⟨setD s.t dst (.gd False .any), s.H⟩)
def opG (tb : TypeId → Option TI) (P : Program) (p : Nat) (o : Oper) (s : St) (G : Prop) (K : St → Prop) : Prop := match o.op with
 | .call c => match c.callee with
  | .value f => (G → gpOs s.t (opnds o.op) ∧ callU P c f s (contU s o.dst K)) ∧ (¬ G → K ⟨setD s.t o.dst (.gd False .any), s.H⟩)
  | _ => anyG s.t (opnds o.op) (¬ G ∧ K ⟨setD s.t o.dst (.gd False .any), s.H⟩) (stepK tb p o (evA s.t) (getL s.H) (gdU G (gpOs s.t (opnds o.op)) s o.dst K))
 | .pick c a b => anyG s.t [c] (¬ G ∧ K ⟨setD s.t o.dst (.gd False .any), s.H⟩) (pickK s.t c a b fun Φ v => (G → Φ) ∧ K ⟨setD s.t o.dst (.gd G v), s.H⟩)
 | _ => anyG s.t (opnds o.op) (¬ G ∧ K ⟨setD s.t o.dst (.gd False .any), s.H⟩) (stepK tb p o (evA s.t) (getL s.H) (gdU G (gpOs s.t (opnds o.op)) s o.dst K))
def guardK (all : List Oper) (t : List AV) (j : Nat) (b : Bool) (K : Prop → Prop) : Prop := match getN all j with
 | none => False
 | some oj => match oj.dst with
  | none => False
  | some d => match getA t d with
   | .val (.bool q) => K (q = b)
   | .gd φ x => match x with
    | .val (.bool q) => K (φ ∧ q = b)
    | .any => ¬ φ ∧ K False
    | _ => False
   | _ => False
def opW (tb : TypeId → Option TI) (P : Program) (p : Nat) (all : List Oper) (o : Oper) (s : St) (K : St → Prop) : Prop := match o.guard with
 | none => opU tb P p o s K
 | some (j, b) => guardK all s.t j b fun G => opG tb P p o s G K
def opsW (tb : TypeId → Option TI) (P : Program) (p : Nat) (all : List Oper) : List Oper → (St → Prop) → St → Prop
 | [], Q, s => Q s
 | o :: rest, Q, s => opW tb P p all o s (opsW tb P p all rest Q)

theorem pickB_eq {t : List AV} {a b : Operand} {q x y : Bool} (ha : evA t a = .val (.bool x)) (hb : evA t b = .val (.bool y)) : pickB a b q x y = (if q then x else y) := by
 unfold pickB
 split
 ·have h : AV.val (.bool true) = AV.val (.bool x) := ha
  simp only [AV.val.injEq, Value.bool.injEq] at h
  subst h; cases q <;> simp
 ·split
  ·have h : AV.val (.bool false) = AV.val (.bool y) := hb
   simp only [AV.val.injEq, Value.bool.injEq] at h
   subst h; cases q <;> simp
  ·cases q <;> simp
theorem pickK_sound {t : List AV} {c a b : Operand} {K : Prop → AV → Prop} (h : pickK t c a b K) : ∃ Φ v, K Φ v ∧ (Φ → ∀ {E : Env} {s : St} {act : Act} {w : World}, s.t = t → Rel w0 keep E s act w →
    ∃ q : Bool, act.eval c = .bool q ∧ rep E w v (if q then act.eval a else act.eval b)) := by
 unfold pickK at h
 split at h
 rotate_left
 ·exact h.elim
 rename_i q hc
 have hcv : ∀ {E : Env} {s : St} {act : Act} {w : World}, s.t = t → Rel w0 keep E s act w → gpO t c → act.eval c = .bool q := by
  intro E s act w hs hR hg
  subst hs
  have := hR.opnd hg
  rw [hc] at this
  exact rep_val this
 split at h
 ·refine ⟨_, _, h, fun p E s act w hs hR => ⟨q, hcv hs hR p.1, ?_⟩⟩
  subst hs
  rw [p.2.1]; exact hR.opnd p.2.2
 ·rename_i y hb
  split at h
  ·rename_i x ha
   refine ⟨_, _, h, fun p E s act w hs hR => ⟨q, hcv hs hR p.1, ?_⟩⟩
   obtain ⟨p1, p2, p3⟩ := p
   subst hs
   have key : (if q then act.eval a else act.eval b) = .bool (if q then x else y) := by
    cases q with
    | true => have := hR.opnd (p2 rfl); rw [ha] at this; simpa using rep_val this
    | false => have := hR.opnd (p3 rfl); rw [hb] at this; simpa using rep_val this
   rw [key, rep]
   congr 1
   exact (pickB_eq ha hb).symm
  ·refine ⟨_, _, h, fun p E s act w hs hR => ⟨q, hcv hs hR p.1, ?_⟩⟩
   subst hs
   rw [p.2.1]; exact hR.opnd p.2.2
  ·exact h.elim
 ·exact h.elim
theorem run_pick {o : Oper} {ρv : Operand → Value} {c a b : Operand} (ho : o.op = .pick c a b) {q : Bool} (hq : ρv c = .bool q) (w : World) : (execOp ρv o).run P w = .ok (.value (if q then ρv a else ρv b)) w := by
 unfold execOp
 simp [ho, hq, asBool]
theorem wp_of_runs {o : Oper} {a : Act} {w w' : World} {cv : Value} {K : Act → World → Prop} {Q : Exit → Act → World → Prop} (h : RunsTo P o a.eval w cv w') (hK : K (a.put o.dst cv) w') : o.wp P a w K Q := by
 rcases h with h | ⟨h, rfl⟩
 ·exact wp_val h hK
 ·unfold Oper.wp; rw [h]; exact hK
theorem stepU_sound {tb : TypeId → Option TI} (htb : TbOk P tb) {p : Nat} {o : Oper} {s : St} {K : St → Prop} (h : stepU tb p o s K) {E : Env} {a : Act} {w : World} (hR : Rel w0 keep E s a w) {Q : Exit → Act → World → Prop} :
    o.wp P a w (fun a' w' => ∃ s' E', Rel w0 keep E' s' a' w' ∧ K s') Q := by
 obtain ⟨hg, h⟩ := h
 obtain ⟨Φ, v, us, ⟨hΦ, hK⟩, hs⟩ := stepK_sound htb h
 obtain ⟨cv, w', E', h1, h2, h3⟩ := hs hΦ E s.H w a.eval hR.hr (fun r e he => by rw [← getL_eq]; exact he) (fun x hx => hR.opnd (gpOs_mem hg x hx))
 exact wp_of_runs h1 ⟨_, E', hR.put h3 h2, hK⟩
theorem callU_sound {p : Nat} {o : Oper} {c : Call} {f : Operand} (ho : o.op = .call c) (hc : c.callee = .value f) {s : St} {K : St → Prop} (hgp : gpOs s.t (opnds o.op)) (h : (∃ g l, evA s.t f = .mth g l ∧ callK P (.clo g []) (l ++ c.args.toList.map (evA s.t)) (getL s.H) (contU s o.dst K)) ∨ callK P (evA s.t f) (c.args.toList.map (evA s.t)) (getL s.H) (contU s o.dst K)) {E : Env} {a : Act} {w : World} (hR : Rel w0 keep E s a w) {Q : Exit → Act → World → Prop} :
    o.wp P a w (fun a' w' => ∃ s' E', Rel w0 keep E' s' a' w' ∧ K s') Q := by
 have hops : ∀ x ∈ opnds o.op, rep E w (evA s.t x) (a.eval x) := fun x hx => hR.opnd (gpOs_mem hgp x hx)
 rw [ho] at hops
 simp only [opnds, hc] at hops
 have hfv := hops f (by simp)
 have hargs : reps E w (c.args.toList.map (evA s.t)) (c.args.toList.map a.eval) := reps_map _ (fun x hx => hops x (by simp [hx]))
 unfold callK at h
 rcases h with ⟨g, l, hf, fn, caps, he, post, hcall, hpost⟩ | ⟨fn, caps, hf, post, hcall, hpost⟩
 ·rw [hf, rep] at hfv
  obtain ⟨cs, hfv, hcs⟩ := hfv
  cases he
  have hcall := hcall E s.H w _ hR.hr (fun r e he => by rw [← getL_eq]; exact he) (reps_append (reps_append hcs hargs) (show reps E w [] [] by rw [reps]))
  exact wp_callW (fs := cs) (cs := []) ho hc hfv hcall fun v w' ⟨x, us, E', hp, hv, hout⟩ => ⟨_, E', hR.put hout hv, hpost x us hp⟩
 ·rw [hf, rep] at hfv
  obtain ⟨cs, hfv, hcs⟩ := hfv
  exact wp_callW (fs := []) ho hc hfv (hcall E s.H w _ hR.hr (fun r e he => by rw [← getL_eq]; exact he) (reps_append hargs hcs)) fun v w' ⟨x, us, E', hp, hv, hout⟩ => ⟨_, E', hR.put hout hv, hpost x us hp⟩
theorem yieldU_sound {o : Oper} {c : Call} {f : Operand} (ho : o.op = .call c) (hc : c.callee = .value f) {s : St} {K : St → Prop} (hgp : gpOs s.t (opnds o.op)) {rw ver : Nat} (hf : evA s.t f = .yld rw ver) (h : yieldK P rw ver (c.args.toList.map (evA s.t)) s.H (contU s o.dst K)) {E : Env} {a : Act} {w : World} (hR : Rel w0 keep E s a w) {Q : Exit → Act → World → Prop} :
    owp P o a w (fun a' w' => ∃ s' E', Rel w0 keep E' s' a' w' ∧ K s') Q := by
 unfold yieldK at h
 obtain ⟨⟨e, he, hve⟩, post, hy, hpost⟩ := h
 intro r n hor
 have hops : ∀ x ∈ opnds o.op, rep E w (evA s.t x) (a.eval x) := fun x hx => hR.opnd (gpOs_mem hgp x hx)
 rw [ho] at hops
 simp only [opnds, hc] at hops
 have hfv := hops f (by simp)
 rw [getL_eq] at he
 rw [hf, rep] at hfv
 have hfv := hfv.2 (by rw [hR.hr.ver rw e he, hve])
 have hargs : reps E w (c.args.toList.map (evA s.t)) (c.args.toList.map a.eval) := reps_map _ (fun x hx => hops x (by simp [hx]))
 obtain ⟨fn, tmps, asn, body, h1, h2⟩ := hy E w _ hR.hr hargs r (n - 1)
 refine ⟨fun _ _ => trivial, ?_⟩
 have e1 : o.semAt (FR r).round a.eval = execOp a.eval o := semAt_ok hor _
 have e2 : execOp a.eval o = Instr.yield (E.ρ rw) (c.args.toList.map a.eval).toArray := by
  have e3 : execOp a.eval o = Instr.yield (E.ρ rw) (#[] ++ c.args.map a.eval ++ #[]) := by
   obtain ⟨dst, op, type, pos, after, guard⟩ := o
   simp only at ho
   subst ho
   obtain ⟨cal, args, ts⟩ := c
   simp only at hc
   subst hc
   unfold execOp
   simp only [resolve, hfv]
   rfl
  rw [e3]
  congr 1
  apply Array.ext'
  simp
 rw [e1, e2, h1]
 refine ⟨fun q => (by cases q), RoundIn.mono h2 fun e w' ⟨v, hv, x, us, E', hp, hx, hout⟩ => ?_⟩
 subst hv
 exact ⟨_, E', hR.put hout hx, hpost x us hp⟩
theorem pickU_sound {o : Oper} {c x y : Operand} (ho : o.op = .pick c x y) {Φ : Prop} {v : AV} {s : St} {K : St → Prop} {E : Env} {a : Act} {w : World} (hR : Rel w0 keep E s a w) (hv : ∃ q : Bool, a.eval c = .bool q ∧ rep E w v (if q then a.eval x else a.eval y)) (hK : K ⟨setD s.t o.dst v, s.H⟩) {Q : Exit → Act → World → Prop} :
    o.wp P a w (fun a' w' => ∃ s' E', Rel w0 keep E' s' a' w' ∧ K s') Q := by
 obtain ⟨q, h1, h2⟩ := hv
 exact wp_val (run_pick ho h1 w) ⟨_, E, hR.put (Out.same hR.hr) h2, hK⟩
theorem nilB_sound {tb : TypeId → Option TI} (htb : TbOk P tb) {hg : Nat → Option Ent} {T : TypeId} {x y : AV} {A : Prop} {K : Prop → Nat → Prop} (h : nilB tb hg T x y A K) : A ∨ (∃ E0 Φ n, P.underlying T = some (.slice E0) ∧ K Φ n ∧
    (Φ → ∀ (E : Env) (H : List Ent) (w : World) (u v : Value), HR E w H → (∀ (r : Nat) (e : Ent), hg r = some e → H[r]? = some e) → rep E w x u → rep E w y v → v = .slice none 0 0 ∧ ∃ a m c, u = .slice a m c ∧ (a = none → n = 0))) := by
 unfold nilB at h
 split at h
 rotate_left
 ·exact .inl h
 split at h
 rotate_left
 ·exact .inl h
 rename_i ti hti
 have hT := (htb T ti hti).u
 split at h
 rotate_left
 ·exact .inl h
 rename_i E0 hu
 rw [hu] at hT
 split at h
 ·rename_i r ver sz off n
  obtain ⟨Ψ, h, hc⟩ := curK_sound h
  refine .inr ⟨E0, Ψ, n, hT, h, fun p E H w u v hr hh hx hy => ⟨rep_val hy, ?_⟩⟩
  rw [rep] at hx
  obtain ⟨a, c, rfl, h3, h4, h5, h6⟩ := hx.2 (hc p E H w hr hh)
  exact ⟨a, n, c, rfl, fun q => by have := h5 q; omega⟩
 ·refine .inr ⟨E0, _, _, hT, h, fun p E H w u v hr hh hx hy => ⟨rep_val hy, ?_⟩⟩
  rw [rep] at hx
  obtain ⟨a, n, c, rfl, h3, h4, h5, h6, _⟩ := hx
  exact ⟨a, n, c, rfl, fun q => by have := h6 q; omega⟩
 ·refine .inr ⟨E0, _, _, hT, h, fun p E H w u v hr hh hx hy => ⟨rep_val hy, ?_⟩⟩
  rw [rep] at hx
  obtain ⟨a, n, c, rfl, h3, h4, h5, h6, _⟩ := hx
  exact ⟨a, n, c, rfl, fun q => by have := h6 q; omega⟩
 ·exact .inl h
theorem opU_sound {tb : TypeId → Option TI} (htb : TbOk P tb) {p : Nat} {o : Oper} {s : St} {K : St → Prop} (h : opU tb P p o s K) {E : Env} {a : Act} {w : World} (hR : Rel w0 keep E s a w) {Q : Exit → Act → World → Prop} :
    owp P o a w (fun a' w' => ∃ s' E', Rel w0 keep E' s' a' w' ∧ K s') Q := by
 unfold opU at h
 split at h
 ·rename_i c ho
  split at h
  ·rename_i f hc
   rcases callU_or h.2 with ⟨rw, ver, hf, hy⟩ | hk
   ·exact yieldU_sound ho hc h.1 hf hy hR
   ·exact owp_of (callU_sound (p := p) ho hc h.1 hk hR)
  ·exact owp_of (stepU_sound htb h hR)
 ·rename_i c x y ho
  obtain ⟨Φ, v, ⟨hΦ, hK⟩, hv⟩ := pickK_sound (w0 := w0) (keep := keep) h
  exact owp_of (pickU_sound (Φ := Φ) ho hR (hv hΦ rfl hR) hK)
 ·rename_i op T x y T' ho
  split at h
  ·rcases nilB_sound htb h with h | ⟨E0, Φ, n, hT, ⟨⟨hg, hΦ⟩, hall⟩, hv⟩
   ·exact owp_of (stepU_sound htb h hR)
   ·obtain ⟨h1, aa, m, c, h2, h3⟩ := hv hΦ E s.H w _ _ hR.hr (fun r e he => by rw [← getL_eq]; exact he) (hR.opnd (gpOs_mem hg x (by rw [ho]; simp [opnds]))) (hR.opnd (gpOs_mem hg y (by rw [ho]; simp [opnds])))
    refine owp_of (wp_val (v := .bool aa.isNone) ?_ ⟨_, E, hR.put (Out.same hR.hr) (by rw [rep]), hall aa.isNone (fun q => h3 (by simpa using q))⟩)
    exact run_binOp ho (by rw [h1, h2]; exact eqGuard_slice w) (by rw [h1, h2, Lib.run_eql_slice_nil w T E0 aa m c 0 0 hT])
  ·rcases nilB_sound htb h with h | ⟨E0, Φ, n, hT, ⟨⟨hg, hΦ⟩, hall⟩, hv⟩
   ·exact owp_of (stepU_sound htb h hR)
   ·obtain ⟨h1, aa, m, c, h2, h3⟩ := hv hΦ E s.H w _ _ hR.hr (fun r e he => by rw [← getL_eq]; exact he) (hR.opnd (gpOs_mem hg x (by rw [ho]; simp [opnds]))) (hR.opnd (gpOs_mem hg y (by rw [ho]; simp [opnds])))
    refine owp_of (wp_val (v := .bool (!aa.isNone)) ?_ ⟨_, E, hR.put (Out.same hR.hr) (by rw [rep]), hall aa.isNone (fun q => h3 (by simpa using q))⟩)
    exact run_binOp ho (by rw [h1, h2]; exact eqGuard_slice w) (by rw [h1, h2, run_neq_slice_nil_any w T E0 aa m c 0 0 hT])
  ·exact owp_of (stepU_sound htb h hR)
 ·exact owp_of (stepU_sound htb h hR)
theorem guardK_sound {ops : Array Oper} {t : List AV} {j : Nat} {b : Bool} {K : Prop → Prop} (h : guardK ops.toList t j b K) : ∃ G, K G ∧ ∀ {E : Env} {s : St} {a : Act} {w : World} {o : Oper}, s.t = t → Rel w0 keep E s a w → o.guard = some (j, b) →
    (G → Region.wanted o (yielded ops a.tmps) = true) ∧ (¬ G → Region.wanted o (yielded ops a.tmps) = false) := by
 unfold guardK at h
 split at h
 ·exact h.elim
 rename_i oj hoj
 split at h
 ·exact h.elim
 rename_i d hd
 rw [getN_eq] at hoj
 have hbind : (ops[j]?).bind (·.dst) = some d := by
  have : ops[j]? = some oj := by simpa using hoj
  rw [this]; exact hd
 split at h
 ·rename_i q hq
  refine ⟨_, h, fun {E s a w o} hs hR ho => ?_⟩
  have hv := hR.get d
  rw [hs, hq] at hv
  have hy := yielded_bool hbind (rep_val hv)
  exact ⟨fun hG => wanted_yes ho (by rw [hy, hG]), fun hG => wanted_no ho (by rw [hy]; simpa using hG)⟩
 ·rename_i φ x hq
  split at h
  ·rename_i q
   refine ⟨_, h, fun {E s a w o} hs hR ho => ?_⟩
   have hv := hR.get d
   rw [hs, hq, rep] at hv
   by_cases hφ : φ
   ·have hy := yielded_bool hbind (rep_val (hv.1 hφ))
    exact ⟨fun hG => wanted_yes ho (by rw [hy, hG.2]), fun hG => wanted_no ho (by rw [hy]; intro e; exact hG ⟨hφ, by simpa using e⟩)⟩
   ·have hy := yielded_undef hbind (hv.2 hφ)
    exact ⟨fun hG => absurd hG.1 hφ, fun hG => wanted_no ho (by rw [hy]; simp)⟩
  ·refine ⟨False, h.2, fun {E s a w o} hs hR ho => ?_⟩
   have hv := hR.get d
   rw [hs, hq, rep] at hv
   have hy := yielded_undef hbind (hv.2 h.1)
   exact ⟨fun hG => hG.elim, fun hG => wanted_no ho (by rw [hy]; simp)⟩
  ·exact h.elim
 ·exact h.elim
theorem rep_gd_yes {E : Env} {w : World} {G : Prop} {x : AV} {v : Value} (hG : G) (h : rep E w x v) : rep E w (.gd G x) v := by rw [rep]; exact ⟨fun _ => h, fun n => absurd hG n⟩
theorem rep_gd_no {E : Env} {w : World} {G : Prop} {x : AV} (hG : ¬ G) : rep E w (.gd G x) undef := by rw [rep]; exact ⟨fun h => absurd h hG, fun _ => rfl⟩
theorem opW_sound {tb : TypeId → Option TI} (htb : TbOk P tb) {p : Nat} {ops : Array Oper} {o : Oper} {s : St} {K : St → Prop} (h : opW tb P p ops.toList o s K) {E : Env} {a : Act} {w : World} (hR : Rel w0 keep E s a w) {Q : Exit → Act → World → Prop} :
    (Region.wanted o (yielded ops a.tmps) = true ∧ owp P o a w (fun a' w' => ∃ s' E', Rel w0 keep E' s' a' w' ∧ K s') Q) ∨ (Region.wanted o (yielded ops a.tmps) = false ∧ ∃ s' E', Rel w0 keep E' s' (a.put o.dst undef) w ∧ K s') := by
 unfold opW at h
 split at h
 ·rename_i ho
  exact .inl ⟨by unfold Region.wanted; simp only [ho], opU_sound htb h hR⟩
 rename_i j b ho
 obtain ⟨G, h, hw⟩ := guardK_sound (w0 := w0) (keep := keep) h
 obtain ⟨hw1, hw2⟩ := hw rfl hR ho
 have skip : ∀ {x : AV}, ¬ G → rep E w x undef → K ⟨setD s.t o.dst x, s.H⟩ → ∃ s' E', Rel w0 keep E' s' (a.put o.dst undef) w ∧ K s' := by
  intro x hG hx hK
  exact ⟨_, E, hR.put (Out.same hR.hr) hx, hK⟩
 have step : (stepK tb p o (evA s.t) (getL s.H) (gdU G (gpOs s.t (opnds o.op)) s o.dst K)) →
     (Region.wanted o (yielded ops a.tmps) = true ∧ owp P o a w (fun a' w' => ∃ s' E', Rel w0 keep E' s' a' w' ∧ K s') Q) ∨ (Region.wanted o (yielded ops a.tmps) = false ∧ ∃ s' E', Rel w0 keep E' s' (a.put o.dst undef) w ∧ K s') := by
  intro h
  obtain ⟨Φ, v, us, h, hs⟩ := stepK_sound htb h
  cases us with
  | nil =>
   obtain ⟨hΦ, _, hK⟩ := h
   by_cases hG : G
   ·obtain ⟨hg, hΦ⟩ := hΦ hG
    obtain ⟨cv, w', E', h1, h2, h3⟩ := hs hΦ E s.H w a.eval hR.hr (fun r e he => by rw [← getL_eq]; exact he) (fun x hx => hR.opnd (gpOs_mem hg x hx))
    exact .inl ⟨hw1 hG, owp_of (wp_of_runs h1 ⟨_, E', hR.put h3 (rep_gd_yes hG h2), hK⟩)⟩
   ·exact .inr ⟨hw2 hG, skip hG (rep_gd_no hG) hK⟩
  | cons u us =>
   by_cases hG : G
   ·obtain ⟨⟨hg, hΦ⟩, hK⟩ := h.1 hG
    obtain ⟨cv, w', E', h1, h2, h3⟩ := hs hΦ E s.H w a.eval hR.hr (fun r e he => by rw [← getL_eq]; exact he) (fun x hx => hR.opnd (gpOs_mem hg x hx))
    exact .inl ⟨hw1 hG, owp_of (wp_of_runs h1 ⟨_, E', hR.put h3 h2, hK⟩)⟩
   ·exact .inr ⟨hw2 hG, skip hG (rep_gd_no (fun h => h)) (h.2 hG)⟩
 have step' : anyG s.t (opnds o.op) (¬ G ∧ K ⟨setD s.t o.dst (.gd False .any), s.H⟩) (stepK tb p o (evA s.t) (getL s.H) (gdU G (gpOs s.t (opnds o.op)) s o.dst K)) →
     (Region.wanted o (yielded ops a.tmps) = true ∧ owp P o a w (fun a' w' => ∃ s' E', Rel w0 keep E' s' a' w' ∧ K s') Q) ∨ (Region.wanted o (yielded ops a.tmps) = false ∧ ∃ s' E', Rel w0 keep E' s' (a.put o.dst undef) w ∧ K s') := by
  intro h
  rcases anyG_or h with ⟨hG, h⟩ | h
  ·exact .inr ⟨hw2 hG, skip hG (rep_gd_no (fun h => h)) h⟩
  ·exact step h
 unfold opG at h
 split at h
 ·rename_i c hop
  split at h
  ·rename_i f hc
   by_cases hG : G
   ·rcases callU_or (h.1 hG).2 with ⟨rw, ver, hf, hy⟩ | hk
    ·exact .inl ⟨hw1 hG, yieldU_sound hop hc (h.1 hG).1 hf hy hR⟩
    ·exact .inl ⟨hw1 hG, owp_of (callU_sound (p := p) hop hc (h.1 hG).1 hk hR)⟩
   ·exact .inr ⟨hw2 hG, skip hG (rep_gd_no (fun h => h)) (h.2 hG)⟩
  ·exact step' h
 ·rename_i c x y hop
  rcases anyG_or h with ⟨hG, h⟩ | h
  ·exact .inr ⟨hw2 hG, skip hG (rep_gd_no (fun h => h)) h⟩
  obtain ⟨Φ, v, ⟨hΦ, hK⟩, hv⟩ := pickK_sound (w0 := w0) (keep := keep) h
  by_cases hG : G
  ·refine .inl ⟨hw1 hG, owp_of (pickU_sound (Φ := Φ) (v := .gd G v) hop hR ?_ hK)⟩
   obtain ⟨q, h1, h2⟩ := hv (hΦ hG) rfl hR
   exact ⟨q, h1, rep_gd_yes hG h2⟩
  ·exact .inr ⟨hw2 hG, skip hG (rep_gd_no hG) hK⟩
 ·exact step' h
theorem opsW_sound {tb : TypeId → Option TI} (htb : TbOk P tb) {p : Nat} {r : Option Nat} {n : Nat} {ops : Array Oper} {Q : Exit → Act → World → Prop} : ∀ {rest : List Oper} {K : St → Prop} {s : St}, opsW tb P p ops.toList rest K s → (∀ o ∈ rest, OkO r o) → ∀ {E : Env} {a : Act} {w : World}, Rel w0 keep E s a w →
    (∀ s' E' a' w', Rel w0 keep E' s' a' w' → K s' → Q .normal a' w') → wpListIn (FR r) n P ops Q rest a w
 | [], K, s, h, hok, E, a, w, hR, hQ => hQ s E a w hR h
 | o :: rest, K, s, h, hok, E, a, w, hR, hQ => by
  unfold opsW at h
  unfold wpListIn
  rcases opW_sound htb (Q := Q) h hR with ⟨h1, h2⟩ | ⟨h1, s', E', h2, h3⟩
  ·rw [if_pos h1]
   exact Oper.wpIn_mono (fun a' w' ⟨s', E', h3, h4⟩ => opsW_sound htb h4 (fun o ho => hok o (List.mem_cons_of_mem _ ho)) h3 hQ) (h2 r n (hok o (List.mem_cons_self ..)))
  ·rw [if_neg (by rw [h1]; simp)]
   exact ⟨fun _ _ => trivial, opsW_sound htb h3 (fun o ho => hok o (List.mem_cons_of_mem _ ho)) h2 hQ⟩
end
end Go.Proofs.YtmjpbmcbcppkfaaGreatDoor

/-! Abstract values: code, loops, functions. Conditions: what 'TIok' says of the types. -/
namespace Go.Proofs.YtmjpbmcbcppkfaaGreatDoor
set_option linter.unusedVariables false
set_option linter.unusedSimpArgs false
open Go.RowKit
inductive Ex where
 | normal
 | exit (id : Nat)
 | ret
def Ex.to : Ex → Exit
 | .normal => .normal
 | .exit i => .exit i
 | .ret => .ret
def thenK (K : St → Prop) (Q : Ex → St → Prop) (e : Ex) (s : St) : Prop := match e with
 | .normal => K s
 | .exit i => Q (.exit i) s
 | .ret => Q .ret s
def blkK (id : Nat) (Q : Ex → St → Prop) (e : Ex) (s : St) : Prop := match e with
 | .normal => Q .normal s
 | .exit i => if i = id then Q .normal s else Q (.exit i) s
 | .ret => Q .ret s
def leS (s s' : St) : Prop := ∀ (w0 : World) (keep : Bs) (E : Env) (a : Act) (w : World), Rel w0 keep E s a w → ∃ E', Rel w0 keep E' s' a w
def backK {σ : Type} (I : σ → St) (μ : σ → Nat) (x : σ) (Q : Ex → St → Prop) (e : Ex) (s : St) : Prop := match e with
 | .normal => ∃ y, leS s (I y) ∧ μ y < μ x
 | .exit i => Q (.exit i) s
 | .ret => Q .ret s
@[irreducible] def loopK (B : (Ex → St → Prop) → St → Prop) (Q : Ex → St → Prop) (s : St) : Prop :=
 ∃ (σ : Type) (I : σ → St) (μ : σ → Nat) (x0 : σ), leS s (I x0) ∧ ∀ x, B (backK I μ x Q) (I x)
def PostS (w0 : World) (keep : Bs) (Q : Ex → St → Prop) (e : Exit) (a : Act) (w : World) : Prop := ∃ ex s E, e = ex.to ∧ Rel w0 keep E s a w ∧ Q ex s
def noDef : Code → Bool
 | .skip => true
 | .label _ => true
 | .region _ ops _ => ops.toList.all fun o => match o.op with | .defer _ => false | _ => true
 | .seq a b => noDef a && noDef b
 | .cond _ a b => noDef a && noDef b
 | .block _ b => noDef b
 | .loop b => noDef b
 | .exit _ => true
 | .ret => true
 | .scope b => noDef b
 | _ => false
def noRange : Code → Bool
 | .seq a b => noRange a && noRange b
 | .cond _ a b => noRange a && noRange b
 | .block _ b => noRange b
 | .loop b => noRange b
 | .scope b => noRange b
 | .rangeFunc .. => false
 | _ => true
def OkC (r : Option Nat) (c : Code) : Prop := r = none ∨ noDef c = true
theorem OkC.ops {r : Option Nat} {id : Nat} {ops : Array Oper} {d : Bool} (h : OkC r (.region id ops d)) : ∀ o ∈ ops.toList, OkO r o := fun o ho => h.imp (fun q => q) fun h => by
 simp only [noDef, List.all_eq_true] at h
 have := h o ho
 intro c hc
 rw [hc] at this
 cases this
@[irreducible] def drawK (P : Program) (id : Nat) (ops : Array Oper) (K : St → Prop) (s : St) : Prop :=
 ∀ (w0 : World) (keep : Bs) (E : Env) (a : Act) (w : World), Rel w0 keep E s a w → ∀ (r : Option Nat) (n : Nat), (∀ o ∈ ops.toList, OkO r o) → (Code.region id ops true).wpIn (FR r) n P (fun e a' w' => e = .normal ∧ ∃ s' E', Rel w0 keep E' s' a' w' ∧ K s') a w
@[irreducible] def rangeK (P : Program) (g : Operand) (ps : Array Tmp) (asn body : Code) (Q : Ex → St → Prop) (s : St) : Prop :=
 ∀ (w0 : World) (keep : Bs) (E : Env) (a : Act) (w : World), ¬ keep.pure → Rel w0 keep E s a w → ∀ n : Nat, (Code.rangeFunc g ps asn body).wpIn (FR none) n P (PostS w0 keep Q) a w
def condK (c : AV) (φ : Prop) (A B : Prop) : Prop := match c with
 | .val (.bool q) => φ ∧ (q = true → A) ∧ (q = false → B)
 | _ => False
def codeW (tb : TypeId → Option TI) (P : Program) (p : Nat) : Code → (Ex → St → Prop) → St → Prop
 | .skip, Q, s => Q .normal s
 | .label _, Q, s => Q .normal s
 | .region id ops draw, Q, s => match draw with
  | false => opsW tb P p ops.toList ops.toList (Q .normal) s
  | true => drawK P id ops (Q .normal) s
 | .seq a b, Q, s => codeW tb P p a (thenK (codeW tb P p b Q) Q) s
 | .cond c a b, Q, s => condK (evA s.t c) (gpO s.t c) (codeW tb P p a Q s) (codeW tb P p b Q s)
 | .block id b, Q, s => codeW tb P p b (blkK id Q) s
 | .loop b, Q, s => loopK (codeW tb P p b) Q s
 | .exit id, Q, s => Q (.exit id) s
 | .ret, Q, s => Q .ret s
 | .scope b, Q, s => codeW tb P p b Q s
 | .rangeFunc g ps asn body, Q, s => rangeK P g ps asn body Q s
 | _, _, _ => False
section
variable {P : Program} {w0 : World} {keep : Bs}
section
variable {r : Option Nat} {n : Nat} {Q : Exit → Act → World → Prop} {b : Frame} {a : Act} {k : List Item} {cs : List Frame} {w : World}
theorem stepR_scope {c : Code} : step P (lone (b.atR a (.code (.scope c) :: k)) cs w) = .next (lone (b.atR a (.code c :: .inScope c :: k)) cs w) :=
 step_lone_go (by simp [stepG, stepG.exec, Frame.atR])
theorem stepR_inScope {c : Code} : step P (lone (b.atR a (.inScope c :: k)) cs w) = .next (lone (b.atR a k) cs w) :=
 step_lone_go (by simp [stepG, stepG.exec, Frame.atR])
theorem wpIn_scope_straight {F : Fence} {c : Code} (h : c.wpIn F n P (Exit.noGoto Q) a w) : (Code.scope c).wpIn F n P Q a w := by
 intro b k cs hro hb hr
 have h0 : (lone (b.atR a (.code (.scope c) :: k)) cs w).fenced P F := fenced_calm hb hr rfl
 obtain ⟨e, a₁, w₁, hq, harr⟩ := h b (.inScope c :: k) cs hro hb hr
 cases e with
 | normal => exact ⟨.normal, a₁, w₁, hq, .head h0 stepR_scope (StepsIn.trans harr (.one (fenced_calm hb hr rfl) stepR_inScope))⟩
 | exit id => exact ⟨.exit id, a₁, w₁, hq, fun k' hk => .head h0 stepR_scope (harr.1 k' (by simp [exitTo, hk])), fun hr' hk => let ⟨k₁, h1, h2⟩ := harr.2 hr' (by simp [exitTo, hk]); ⟨k₁, h1, .head h0 stepR_scope h2⟩⟩
 | goto l => exact hq.elim
 | ret => exact ⟨_, a₁, w₁, hq, .of_steps (.one h0 stepR_scope) harr⟩
 | panic ch => exact ⟨_, a₁, w₁, hq, .of_steps (.one h0 stepR_scope) harr⟩
 | outgrown => exact ⟨_, a₁, w₁, hq, .of_steps (.one h0 stepR_scope) harr⟩
end
theorem codeW_soundI {tb : TypeId → Option TI} (htb : TbOk P tb) {p : Nat} {r : Option Nat} {n : Nat} : ∀ {c : Code} {Q : Ex → St → Prop} {s : St}, codeW tb P p c Q s → OkC r c → (keep.pure → noRange c = true) → ∀ {E : Env} {a : Act} {w : World}, Rel w0 keep E s a w → c.wpIn (FR r) n P (PostS w0 keep Q) a w
 | .skip, Q, s, h, ho, hp, E, a, w, hR => wpIn_skip ⟨.normal, s, E, rfl, hR, h⟩
 | .label l, Q, s, h, ho, hp, E, a, w, hR => wpIn_label ⟨.normal, s, E, rfl, hR, h⟩
 | .region id ops draw, Q, s, h, ho, hp, E, a, w, hR => by
  simp only [codeW] at h
  split at h
  ·exact wpIn_region_list (opsW_sound htb h ho.ops hR (fun s' E' a' w' h1 h2 => ⟨.normal, s', E', rfl, h1, h2⟩))
  ·unfold drawK at h
   exact wpIn_mono (h w0 keep E a w hR r n ho.ops) (fun e a' w' ⟨he, s', E', h1, h2⟩ => ⟨.normal, s', E', he, h1, h2⟩)
 | .seq x y, Q, s, h, ho, hp, E, a, w, hR => by
  simp only [codeW] at h
  have h1 : OkC r x := ho.imp (fun q => q) fun h => by simp only [noDef, Bool.and_eq_true] at h; exact h.1
  have h2 : OkC r y := ho.imp (fun q => q) fun h => by simp only [noDef, Bool.and_eq_true] at h; exact h.2
  have p1 : keep.pure → noRange x = true := fun q => by have := hp q; simp only [noRange, Bool.and_eq_true] at this; exact this.1
  have p2 : keep.pure → noRange y = true := fun q => by have := hp q; simp only [noRange, Bool.and_eq_true] at this; exact this.2
  refine wpIn_seq (wpIn_mono (codeW_soundI htb h h1 p1 hR) fun e a' w' ⟨ex, s', E', he, h3, h4⟩ => ?_)
  subst he
  cases ex with
  | normal => exact codeW_soundI htb h4 h2 p2 h3
  | exit i => exact ⟨.exit i, s', E', rfl, h3, h4⟩
  | ret => exact ⟨.ret, s', E', rfl, h3, h4⟩
 | .cond c x y, Q, s, h, ho, hp, E, a, w, hR => by
  simp only [codeW, condK] at h
  have h1 : OkC r x := ho.imp (fun q => q) fun h => by simp only [noDef, Bool.and_eq_true] at h; exact h.1
  have h2 : OkC r y := ho.imp (fun q => q) fun h => by simp only [noDef, Bool.and_eq_true] at h; exact h.2
  have p1 : keep.pure → noRange x = true := fun q => by have := hp q; simp only [noRange, Bool.and_eq_true] at this; exact this.1
  have p2 : keep.pure → noRange y = true := fun q => by have := hp q; simp only [noRange, Bool.and_eq_true] at this; exact this.2
  split at h
  ·rename_i q hc
   have hv := hR.opnd h.1
   rw [hc] at hv
   exact wpIn_cond_split (rep_val hv) (fun hq => codeW_soundI htb (h.2.1 hq) h1 p1 hR) (fun hq => codeW_soundI htb (h.2.2 hq) h2 p2 hR)
  ·exact h.elim
 | .block id b, Q, s, h, ho, hp, E, a, w, hR => by
  simp only [codeW] at h
  refine wpIn_block (wpIn_mono (codeW_soundI htb h (ho.imp (fun q => q) fun h => h) (fun q => hp q) hR) fun e a' w' ⟨ex, s', E', he, h1, h2⟩ => ?_)
  subst he
  cases ex with
  | normal => exact ⟨.normal, s', E', rfl, h1, h2⟩
  | exit i =>
   simp only [Ex.to, Exit.inBlock]
   simp only [blkK] at h2
   split
   ·rename_i hi; rw [if_pos hi] at h2; exact ⟨.normal, s', E', rfl, h1, h2⟩
   ·rename_i hi; rw [if_neg hi] at h2; exact ⟨.exit i, s', E', rfl, h1, h2⟩
  | ret => exact ⟨.ret, s', E', rfl, h1, h2⟩
 | .loop b, Q, s, h, ho, hp, E, a, w, hR => by
  simp only [codeW, loopK] at h
  obtain ⟨σ, I, μ, x0, h0, hI⟩ := h
  obtain ⟨E0, hR0⟩ := h0 w0 keep E a w hR
  intro b' k cs hro hb hr
  have key : ∀ (m : Nat) (x : σ) (E : Env) (a : Act) (w : World), μ x = m → Rel w0 keep E (I x) a w →
      ∃ e a' w', PostS w0 keep Q e a' w' ∧ ArrivesIn (Machine.fenced P (FR r)) P (lone (b'.atR a (.code b :: .inLoop b :: k)) cs w) b' k cs e a' w' := by
   intro m
   induction m using Nat.strongRecOn with
   | _ m ih =>
    intro x E a w hn hR
    obtain ⟨e, a₁, w₁, ⟨ex, s', E', he, h1, h2⟩, harr⟩ := codeW_soundI htb (r := r) (n := n) (hI x) (ho.imp (fun q => q) fun h => h) (fun q => hp q) hR b' (.inLoop b :: k) cs hro hb hr
    subst he
    cases ex with
    | normal =>
     obtain ⟨y, hle, hlt⟩ := h2
     obtain ⟨E2, hR2⟩ := hle w0 keep E' a₁ w₁ h1
     obtain ⟨e₂, a₂, w₂, hq₂, harr₂⟩ := ih (μ y) (hn ▸ hlt) y E2 a₁ w₁ rfl hR2
     exact ⟨e₂, a₂, w₂, hq₂, .of_steps (StepsIn.trans harr (.one (fenced_calm hb hr rfl) stepR_inLoop)) harr₂⟩
    | exit id => exact ⟨_, a₁, w₁, ⟨.exit id, s', E', rfl, h1, h2⟩, .pass (x := .inLoop b) rfl (fun _ _ => .inl (by simp [Ex.to])) harr⟩
    | ret => exact ⟨_, a₁, w₁, ⟨.ret, s', E', rfl, h1, h2⟩, .pass (x := .inLoop b) rfl (fun _ _ => .inl (by simp [Ex.to])) harr⟩
  obtain ⟨e, a', w', hq, harr⟩ := key _ x0 E0 a w rfl hR0
  exact ⟨e, a', w', hq, .of_steps (.one (fenced_calm hb hr rfl) stepR_loop) harr⟩
 | .exit id, Q, s, h, ho, hp, E, a, w, hR => wpIn_exit ⟨.exit id, s, E, rfl, hR, h⟩
 | .ret, Q, s, h, ho, hp, E, a, w, hR => wpIn_ret ⟨.ret, s, E, rfl, hR, h⟩
 | .scope b, Q, s, h, ho, hp, E, a, w, hR => by
  simp only [codeW] at h
  refine wpIn_scope_straight (wpIn_mono (codeW_soundI htb h (ho.imp (fun q => q) fun h => h) (fun q => hp q) hR) fun e a' w' ⟨ex, s', E', he, h1, h2⟩ => ?_)
  subst he
  cases ex <;> exact ⟨_, s', E', rfl, h1, h2⟩
 | .rangeFunc g ps asn body, Q, s, h, ho, hp, E, a, w, hR => by
  simp only [codeW, rangeK] at h
  rcases ho with rfl | ho
  ·exact h w0 keep E a w (fun q => by have := hp q; cases this) hR n
  ·cases ho
 | .goto _, Q, s, h, ho, hp, E, a, w, hR => h.elim
 | .refuse _, Q, s, h, ho, hp, E, a, w, hR => h.elim
theorem codeW_sound {tb : TypeId → Option TI} (htb : TbOk P tb) {p : Nat} {c : Code} {Q : Ex → St → Prop} {s : St} (h : codeW tb P p c Q s) (hp : keep.pure → noRange c = true) {E : Env} {a : Act} {w : World} (hR : Rel w0 keep E s a w) : c.wp P (PostS w0 keep Q) a w :=
 (wpIn_wide (n := 0)).1 (codeW_soundI (r := none) htb h (.inl rfl) hp hR)

/-! weakenings -/
def leT : List AV → List AV → Prop
 | [], [] => True
 | x :: xs, y :: ys => (match y with | .any => True | y => x = y) ∧ leT xs ys
 | _, _ => False
def leH : List Ent → List Ent → Prop
 | [], [] => True
 | x :: xs, y :: ys => (match y.bd with | .dead => x.ver = y.ver | _ => x = y) ∧ leH xs ys
 | _, _ => False
theorem leT_get : ∀ {xs ys : List AV}, leT xs ys → xs.length = ys.length ∧ ∀ (i : Nat) y, ys[i]? = some y → y = .any ∨ xs[i]? = some y
 | [], [], _ => ⟨rfl, by simp⟩
 | [], _ :: _, h => h.elim
 | _ :: _, [], h => h.elim
 | x :: xs, y :: ys, h => by
  obtain ⟨h1, h2⟩ := leT_get h.2
  refine ⟨by simp [h1], fun i z hz => ?_⟩
  cases i with
  | zero =>
   simp at hz; subst hz
   have := h.1
   split at this
   ·exact .inl rfl
   ·right; simp [this]
  | succ i => simpa using h2 i z (by simpa using hz)
theorem leH_get : ∀ {xs ys : List Ent}, leH xs ys → ∀ (i : Nat) (y : Ent), ys[i]? = some y → ∃ x : Ent, xs[i]? = some x ∧ (y.bd = .dead ∧ x.ver = y.ver ∨ x = y)
 | [], [], _ => by simp
 | [], _ :: _, h => h.elim
 | _ :: _, [], h => h.elim
 | x :: xs, y :: ys, h => by
  intro i z hz
  cases i with
  | zero =>
   simp at hz; subst hz
   refine ⟨x, rfl, ?_⟩
   have := h.1
   split at this
   ·rename_i hd; exact .inl ⟨hd, this⟩
   ·exact .inr this
  | succ i => simpa using leH_get h.2 i z (by simpa using hz)
theorem leH_len : ∀ {xs ys : List Ent}, leH xs ys → xs.length = ys.length
 | [], [], _ => rfl
 | [], _ :: _, h => h.elim
 | _ :: _, [], h => h.elim
 | x :: xs, y :: ys, h => by simp [leH_len h.2]
theorem leS_of {s s' : St} (ht : leT s.t s'.t) (hH : leH s.H s'.H) : leS s s' := by
 intro w0 keep E a w hR
 obtain ⟨h1, h2⟩ := leT_get ht
 have hg := leH_get hH
 have hl : ∀ (r : Nat) (e : Ent), s'.H[r]? = some e → Liv E r e → ∃ e0 : Ent, s.H[r]? = some e0 ∧ e0 = e := by
  intro r e he hl
  obtain ⟨x, hx, h3 | h3⟩ := hg r e he
  ·have := hl.1; rw [h3.1] at this; cases this
  ·exact ⟨x, hx, h3⟩
 have hb : ∀ (r : Nat) (e : Ent) (b : Nat), s'.H[r]? = some e → Blk E r e b → s.H[r]? = some e := by
  intro r e b he hl
  obtain ⟨x, hx, h3 | h3⟩ := hg r e he
  ·obtain ⟨v, bd⟩ := e
   simp only at h3
   rw [h3.1] at hl
   exact absurd hl Blk.dead
  ·rw [hx, h3]
 refine ⟨E, ⟨by rw [← h1]; exact hR.len, fun i x hx => ?_, hR.defers, ⟨?_, ?_, ?_, ?_, hR.hr.zlt, ?_, ?_, hR.hr.gl, ?_⟩, ⟨hR.fr.os, hR.fr.tape, hR.fr.output, hR.fr.size, hR.fr.block, hR.fr.grow, ?_⟩, hR.ext, hR.zone, ?_⟩⟩
 ·rcases h2 i x hx with rfl | h
  ·simp only [rep]
  ·exact hR.tmps i x h
 ·intro r e he
  obtain ⟨x, hx, h3 | h3⟩ := hg r e he
  ·rw [hR.hr.ver r x hx]; exact h3.2
  ·subst h3; exact hR.hr.ver r x hx
 ·intro r e he hl1
  obtain ⟨x, hx, rfl⟩ := hl r e he hl1
  exact hR.hr.ent r x hx hl1
 ·intro r e he ha
  obtain ⟨x, hx, h3 | h3⟩ := hg r e he
  ·rw [h3.1]; rfl
  ·subst h3; exact hR.hr.abs r x hx ha
 ·intro r r' e e' b he he' hl1 hl2
  exact hR.hr.inj r r' e e' b (hb r e b he hl1) (hb r' e' b he' hl2) hl1 hl2
 ·intro r e b he hl1
  exact hR.hr.zrow r e b (hb r e b he hl1) hl1
 ·intro r hr
  exact hR.hr.top r (by rw [leH_len hH]; exact hr)
 ·intro r v ls he
  obtain ⟨x, hx, h3 | h3⟩ := hg r _ he
  ·cases h3.1
  ·exact hR.hr.pool r v ls (by rw [hx, h3])
 ·intro r e b he hl1
  exact hR.fr.rows r e b (hb r e b he hl1) hl1
 ·intro r e b he hl1
  exact hR.rows r e b (hb r e b he hl1) hl1

/-! functions -/
def env0 (w : World) : Env := { ρ := fun _ => w.heap.size, ver := fun _ => 0, zone := fun z b => z = 0 ∧ b < w.heap.size, abs := fun _ => False, pl := fun _ _ => none }
def deads : Nat → List Ent
 | 0 => []
 | n + 1 => ⟨0, .dead⟩ :: deads n
def undefs : Nat → List AV
 | 0 => []
 | n + 1 => .val undef :: undefs n
theorem deads_get : ∀ {n r : Nat} {e : Ent}, (deads n)[r]? = some e → e = ⟨0, .dead⟩
 | 0, _, _, h => by simp [deads] at h
 | n + 1, 0, _, h => by simp [deads] at h; exact h.symm
 | n + 1, r + 1, _, h => deads_get (n := n) (r := r) (by simpa [deads] using h)
theorem undefs_len : ∀ n, (undefs n).length = n
 | 0 => rfl
 | n + 1 => by simp [undefs, undefs_len n]
theorem undefs_get : ∀ {n r : Nat} {x : AV}, (undefs n)[r]? = some x → x = .val undef
 | 0, _, _, h => by simp [undefs] at h
 | n + 1, 0, _, h => by simp [undefs] at h; exact h.symm
 | n + 1, r + 1, _, h => undefs_get (n := n) (r := r) (by simpa [undefs] using h)
def Spec (P : Program) (f : FuncId) (args : List AV) (H0 : List Ent) (post : AV → List Ent → Prop) : Prop :=
 ∀ (w : World) (E : Env) (cargs : List Value), HR E w H0 → reps E w args cargs →
  Calls P f cargs.toArray w fun e w' => ∃ v x H E', e = .returned v ∧ post x H ∧ rep E' w' x v ∧ HR E' w' H ∧ Ext E E' w w' ∧ (∀ z b, E'.zone z b → E.zone z b ∨ w.heap.size ≤ b ∨ Hb E H0 b) ∧ H0.length ≤ H.length ∧ (∀ (r : Nat) (e : Ent) (b : Nat), H[r]? = some e → Blk E' r e b → w.heap.size ≤ b ∨ ∃ (r0 : Nat) (e0 : Ent), H0[r0]? = some e0 ∧ Blk E r0 e0 b) ∧ Fr w (fun k => ∀ (r : Nat) (e : Ent), H0[r]? = some e → ¬ Blk E r e k) E' H w'
def resA (tb : TypeId → Option TI) (t : List AV) (H : List Ent) : List ResultVar → (Prop → List AV → Prop) → Prop
 | [], K => K True []
 | .tmp i :: rs, K => resA tb t H rs fun Φ l => K (gpA (getA t i) ∧ Φ) (unA (getA t i) :: l)
 | .cell i T :: rs, K => match tb T with
  | none => False
  | some ti => match unA (getA t i) with
   | .ref r ver sz k j => match getL H r with
    | none => False
    | some e => bdK e.bd sz k fun Φ cells => cvK ti (dropL cells j) fun Ψ v => resA tb t H rs fun Φ' l => K (gpA (getA t i) ∧ ver = e.ver ∧ Φ ∧ Ψ ∧ Φ') (v :: l)
   | _ => False
def retV : List AV → AV
 | [x] => x
 | l => .tup l
def retK (tb : TypeId → Option TI) (rs : List ResultVar) (post : AV → List Ent → Prop) (e : Ex) (s : St) : Prop := match e with
 | .exit _ => False
 | _ => resA tb s.t s.H rs fun Φ l => Φ ∧ post (retV l) s.H
def resF (tmps : Array Value) : ResultVar → Sem Value
 | .tmp t => pure (tmps.getD t undef)
 | .cell a t => do loadVar t (← asAddr (tmps.getD a undef))
theorem resA_sound {tb : TypeId → Option TI} (htb : TbOk P tb) {t : List AV} {H : List Ent} : ∀ {rs : List ResultVar} {K : Prop → List AV → Prop}, resA tb t H rs K →
    ∃ Φ l, K Φ l ∧ (Φ → ∀ {E : Env} {s : St} {a : Act} {w : World}, s.t = t → s.H = H → Rel w0 keep E s a w →
     ∃ vs : List Value, reps E w l vs ∧ (rs.mapM (m := Sem) (resF a.tmps)).run P w = .ok vs w)
 | [], K, h => ⟨_, _, h, fun _ {E s a w} _ _ _ => ⟨[], by simp [reps], by simp⟩⟩
 | .tmp i :: rs, K, h => by
  simp only [resA] at h
  obtain ⟨Φ, l, h, hl⟩ := resA_sound htb h
  refine ⟨_, _, h, fun p {E s a w} hs hH hR => ?_⟩
  obtain ⟨vs, h1, h2⟩ := hl p.2 hs hH hR
  refine ⟨a.tmps.getD i undef :: vs, ?_, ?_⟩
  ·simp only [reps]
   exact ⟨_, _, rfl, rep_un (by have := hR.get i; rw [hs] at this; exact this) p.1, h1⟩
  ·have e1 : (resF a.tmps (.tmp i)).run P w = .ok (a.tmps.getD i undef) w := rfl
   simp only [List.mapM_cons, Sem.run_bind, e1, h2, Sem.run_pure, Result.andThen_ok]
 | .cell i T :: rs, K, h => by
  simp only [resA] at h
  split at h
  ·exact h.elim
  rename_i ti hti
  split at h
  rotate_left
  ·exact h.elim
  rename_i r ver sz k j hx
  split at h
  ·exact h.elim
  rename_i e he
  obtain ⟨Φ1, ys, h, hb⟩ := bdK_sound h
  obtain ⟨Ψ, v, h, hl1⟩ := cv_load (htb T ti hti) h
  obtain ⟨Φ, l, h, hl⟩ := resA_sound htb h
  refine ⟨_, _, h, fun p {E s a w} hs hH hR => ?_⟩
  obtain ⟨p1, p2, p3, p4, p5⟩ := p
  obtain ⟨vs, h1, h2⟩ := hl p5 hs hH hR
  have hv := hR.get i
  rw [hs] at hv
  have hv := rep_un hv p1
  rw [hx, rep] at hv
  rw [getL_eq, ← hH] at he
  have hpt := hv.2 (p2.trans (hR.hr.ver r e he).symm)
  obtain ⟨hb1, hb2⟩ := hb p3
  obtain ⟨cs, h5, h6, h7⟩ := hR.hr.cells he hb1
  obtain ⟨cv, hc2, _, hc1⟩ := hl1 p4 E w cs h6
  have hc1 := hc1 (E.ρ r) (k * e.bd.sz) h7
  refine ⟨cv :: vs, ?_, ?_⟩
  ·simp only [reps]
   exact ⟨_, _, rfl, hc2, h1⟩
  ·rw [hb2] at hpt
   have e1 : (resF a.tmps (.cell i T)).run P w = .ok cv w := by
    simp only [resF, hpt, asAddr, Sem.run_bind, Sem.run_pure, Result.andThen_ok, hc1]
   simp only [List.mapM_cons, Sem.run_bind, e1, h2, Sem.run_pure, Result.andThen_ok]
theorem ret_sound {tb : TypeId → Option TI} (htb : TbOk P tb) {fn : Func} {rs : List ResultVar} (hrs : fn.results = rs.toArray) {post : AV → List Ent → Prop} {e : Ex} {s : St} (h : retK tb rs post e s) {E : Env} {a : Act} {w : World} (hR : Rel w0 keep E s a w) :
    (e = .normal ∨ e = .ret) ∧ ∃ v x, (results fn a.tmps).run P w = .ok v w ∧ rep E w x v ∧ post x s.H := by
 have key : resA tb s.t s.H rs (fun Φ l => Φ ∧ post (retV l) s.H) → ∃ v x, (results fn a.tmps).run P w = .ok v w ∧ rep E w x v ∧ post x s.H := by
  intro h
  obtain ⟨Φ, l, ⟨hΦ, hp⟩, hl⟩ := resA_sound (w0 := w0) (keep := keep) htb h
  obtain ⟨vs, h1, h2⟩ := hl hΦ rfl rfl hR
  have hlen := (reps_get h1).1
  have h3 : (results fn a.tmps).run P w = .ok (if h : vs.toArray.size = 1 then vs.toArray[0] else .tuple vs.toArray) w := by
   have e0 : results fn a.tmps = (do
       let vs ← fn.results.mapM (resF a.tmps)
       pure (if h : vs.size = 1 then vs[0] else .tuple vs)) := rfl
   rw [e0, hrs, Sem.run_bind, List.mapM_toArray]
   have e2 : (Functor.map List.toArray (rs.mapM (m := Sem) (resF a.tmps))) = ((rs.mapM (m := Sem) (resF a.tmps)) >>= fun l => pure (List.toArray l)) := rfl
   rw [e2, Sem.run_bind, h2]
   rfl
  refine ⟨_, retV l, h3, ?_, hp⟩
  cases l with
  | nil =>
   have : vs = [] := List.eq_nil_of_length_eq_zero (by simpa using hlen.symm)
   subst this
   simp only [retV, rep]
   exact ⟨[], rfl, by simp [reps]⟩
  | cons x l =>
   cases l with
   | nil =>
    rw [reps] at h1
    obtain ⟨u, us, rfl, h4, h5⟩ := h1
    rw [reps] at h5
    subst h5
    simpa [retV] using h4
   | cons y l =>
    have : ¬ vs.toArray.size = 1 := by simp at hlen ⊢; omega
    rw [dif_neg this]
    simp only [retV, rep]
    exact ⟨vs, rfl, h1⟩
 cases e with
 | normal => exact ⟨.inl rfl, key h⟩
 | ret => exact ⟨.inr rfl, key h⟩
 | exit i => exact h.elim
def bsOf (E : Env) (H0 : List Ent) (pu : Prop) : Bs := ⟨fun k => ∀ (r : Nat) (e : Ent), H0[r]? = some e → ¬ Blk E r e k, E, fun b => ∃ (r : Nat) (e0 : Ent), H0[r]? = some e0 ∧ Blk E r e0 b, pu⟩
theorem entry_rel {fn : Func} {n : Nat} (hn : fn.ntmps = n) {args : List AV} {H0 : List Ent} {w : World} {E : Env} {cargs : List Value} (hr : HR E w H0) (hargs : reps E w args cargs) (m : Nat) (pu : Prop) :
    Rel w (bsOf E H0 pu) E ⟨args ++ undefs (n - args.length), H0 ++ deads m⟩ { tmps := cargs.toArray ++ Array.replicate (fn.ntmps - cargs.toArray.size) undef, defers := [] } w := by
 have hE := hr.top
 have hlen := (reps_get hargs).1
 refine Rel.mk ?_ ?_ ⟨fun _ => rfl, Marks.nil _ _ _⟩ ?_ ?_ (Ext.refl _ _) (fun _ _ h => .inl h) ?_
 ·simp [undefs_len, hn, hlen]
 ·intro i x hx
  rw [List.getElem?_append] at hx
  split at hx
  ·rename_i hi
   obtain ⟨v, hv, hrep⟩ := (reps_get hargs).2 i x hx
   have hlt := (List.getElem?_eq_some_iff.1 hv).1
   have : (cargs.toArray ++ Array.replicate (fn.ntmps - cargs.toArray.size) undef).getD i undef = v := by
    simp only [Array.getD_eq_getD_getElem?]
    rw [Array.getElem?_append_left (by simpa using hlt)]
    simp [hv]
   rw [this]; exact hrep
  ·rename_i hi
   have hx' := undefs_get hx
   subst hx'
   rw [rep]
   simp only [Array.getD_eq_getD_getElem?]
   rw [Array.getElem?_append_right (by simp; omega)]
   rw [Array.getElem?_replicate]
   split <;> rfl
 ·have hget : ∀ (r : Nat) (e : Ent), (H0 ++ deads m)[r]? = some e → H0[r]? = some e ∨ (H0.length ≤ r ∧ e = ⟨0, .dead⟩) := by
    intro r e he
    rw [List.getElem?_append] at he
    split at he
    ·exact .inl he
    ·exact .inr ⟨by omega, deads_get he⟩
  refine ⟨?_, ?_, ?_, ?_, hr.zlt, ?_, ?_, hr.gl, ?_⟩
  ·intro r e he
   rcases hget r e he with h1 | ⟨h1, rfl⟩
   ·exact hr.ver r e h1
   ·exact (hE r h1).1
  ·intro r e he hl
   rcases hget r e he with h1 | ⟨h1, rfl⟩
   ·exact hr.ent r e h1 hl
   ·cases hl.1
  ·intro r e he ha
   rcases hget r e he with h1 | ⟨h1, rfl⟩
   ·exact hr.abs r e h1 ha
   ·rfl
  ·intro r r' e e' b he he' hl hl'
   rcases hget r e he with h1 | ⟨h1, rfl⟩
   ·rcases hget r' e' he' with h2 | ⟨h2, rfl⟩
    ·exact hr.inj r r' e e' b h1 h2 hl hl'
    ·exact absurd hl' Blk.dead
   ·exact absurd hl Blk.dead
  ·intro r e b he hl
   rcases hget r e he with h1 | ⟨h1, rfl⟩
   ·exact hr.zrow r e b h1 hl
   ·exact absurd hl Blk.dead
  ·intro r hr'
   rw [List.length_append] at hr'
   exact hr.top r (by omega)
  ·intro r v ls he
   rcases hget r _ he with h1 | ⟨h1, h2⟩
   ·exact hr.pool r v ls h1
   ·cases h2
 ·refine ⟨rfl, rfl, rfl, Nat.le_refl _, fun _ _ _ => rfl, fun _ cur T fz h => ⟨cur, T, fz, h, Nat.le_refl _⟩, fun r e b he hl _ hk => ?_⟩
  rw [List.getElem?_append] at he
  split at he
  ·exact hk r e he hl
  ·have := deads_get he; subst this; exact absurd hl Blk.dead
 ·intro r e b he hl
  rw [List.getElem?_append] at he
  split at he
  ·exact .inr ⟨r, e, he, hl⟩
  ·have := deads_get he; subst this; exact absurd hl Blk.dead
theorem spec_entry {tb : TypeId → Option TI} (htb : TbOk P tb) {f : FuncId} {fn : Func} {c : Code} {n : Nat} {rs : List ResultVar} (hf : P.funcs[f]? = some fn) (hb : fn.body = some c) (hn : fn.ntmps = n) (hrs : fn.results = rs.toArray)
    {args : List AV} {H0 : List Ent} {post : AV → List Ent → Prop} (h : codeW tb P H0.length c (retK tb rs fun x H => H0.length ≤ H.length ∧ post x H) ⟨args ++ undefs (n - args.length), H0 ++ deads n⟩) (hnr : noRange c = true := by kernel_rfl) : Spec P f args H0 post := by
 intro w E cargs hr hargs
 refine calls_of_wp hf hb (wp_mono (codeW_sound (keep := bsOf E H0 True) htb h (fun _ => hnr) (entry_rel hn hr hargs n True)) ?_)
 rintro e a w' ⟨ex, s, E', rfl, hR, hQ⟩
 obtain ⟨hex, v, x, h1, h2, h3⟩ := ret_sound htb hrs hQ hR
 have hx : Ext E E' w w' := hR.ext
 rcases hex with rfl | rfl
 ·exact ⟨hR.defers.1 trivial, v, h1, v, x, s.H, E', rfl, h3.2, h2, hR.hr, hx, hR.zone, h3.1, hR.rows, hR.fr⟩
 ·exact ⟨hR.defers.1 trivial, v, h1, v, x, s.H, E', rfl, h3.2, h2, hR.hr, hx, hR.zone, h3.1, hR.rows, hR.fr⟩
end
end Go.Proofs.YtmjpbmcbcppkfaaGreatDoor

/-! Abstract values: a call by what its function comes to. Conditions: the premises of each. -/
namespace Go.Proofs.YtmjpbmcbcppkfaaGreatDoor
set_option linter.unusedVariables false
set_option linter.unusedSimpArgs false
open Go.RowKit
structure Ren where
 σ : Nat → Nat
 δ : Nat → Nat
mutual
def renA (R : Ren) : AV → AV
 | .any => .any
 | .val v => .val v
 | .agg l => .agg (renAs R l)
 | .tup l => .tup (renAs R l)
 | .bs z l => .bs z l
 | .sl z sz f d l => .sl z sz (fun a => renAs R (f a)) d l
 | .own r ver sz off n => .own (R.σ r) (ver + R.δ r) sz off n
 | .ref r ver sz i j => .ref (R.σ r) (ver + R.δ r) sz i j
 | .cp z cells j => .cp z (renAs R cells) j
 | .clo f caps => .clo f (renAs R caps)
 | .yld r ver => .yld (R.σ r) (ver + R.δ r)
 | .mth f l => .mth f (renAs R l)
 | .ifc t x => .ifc t (renA R x)
 | .mp r ver => .mp (R.σ r) (ver + R.δ r)
 | .pl r ver i off n => .pl (R.σ r) (ver + R.δ r) i off n
 | .plr r ver i k => .plr (R.σ r) (ver + R.δ r) i k
 | .gd φ x => .gd φ (renA R x)
def renAs (R : Ren) : List AV → List AV
 | [] => []
 | x :: xs => renA R x :: renAs R xs
end
mutual
def onA (D : Nat → Prop) : AV → Prop
 | .any => True
 | .val v => True
 | .agg l => onAs D l
 | .tup l => onAs D l
 | .bs z l => True
 | .sl z sz f d l => ∀ a, onAs D (f a)
 | .own r ver sz off n => D r
 | .ref r ver sz i j => D r
 | .cp z cells j => onAs D cells
 | .clo f caps => onAs D caps
 | .yld r ver => D r
 | .mth f l => onAs D l
 | .ifc t x => onA D x
 | .mp r ver => D r
 | .pl r ver i off n => D r
 | .plr r ver i k => D r
 | .gd φ x => onA D x
def onAs (D : Nat → Prop) : List AV → Prop
 | [] => True
 | x :: xs => onA D x ∧ onAs D xs
end
structure Com (D : Nat → Prop) (R : Ren) (E Ec : Env) : Prop where
 ver : ∀ r, D r → Ec.ver (R.σ r) = E.ver r + R.δ r
 rho : ∀ r, D r → Ec.ρ (R.σ r) = E.ρ r
 abs : ∀ r, D r → (Ec.abs (R.σ r) ↔ E.abs r)
 zone : ∀ z b, Ec.zone z b ↔ E.zone z b
 pl : ∀ r, D r → Ec.pl (R.σ r) = E.pl r
theorem renAs_len (R : Ren) : ∀ (xs : List AV), (renAs R xs).length = xs.length
 | [] => by simp [renAs]
 | x :: xs => by simp [renAs, renAs_len R xs]
mutual
theorem rep_ren {D : Nat → Prop} {R : Ren} {E Ec : Env} {w : World} (C : Com D R E Ec) : ∀ (x : AV) (v : Value), onA D x → (rep E w x v ↔ rep Ec w (renA R x) v)
 | .any, v, _ => by simp only [renA, rep]
 | .val u, v, _ => by simp only [renA, rep]
 | .agg l, v, h => by
  simp only [renA, rep]
  rw [onA] at h
  exact exists_congr fun cs => and_congr_right fun _ => reps_ren C l cs h
 | .tup l, v, h => by
  simp only [renA, rep]
  rw [onA] at h
  exact exists_congr fun cs => and_congr_right fun _ => reps_ren C l cs h
 | .bs z l, v, _ => by simp only [renA, rep, C.zone]
 | .sl z sz f d l, v, h => by
  simp only [renA, rep, C.zone]
  rw [onA] at h
  refine exists_congr fun a => exists_congr fun n => exists_congr fun c => and_congr_right fun _ => and_congr_right fun _ => and_congr_right fun _ => and_congr_right fun _ => and_congr_right fun _ => ?_
  refine forall_congr' fun i => forall_congr' fun x => forall_congr' fun hx => exists_congr fun b => exists_congr fun o => exists_congr fun cs => and_congr_right fun _ => and_congr_right fun _ => and_congr_right fun _ => ?_
  exact and_congr_left fun _ => reps_ren C (f x) cs (h x)
 | .own r ver sz off n, v, h => by
  simp only [renA, rep]
  rw [onA] at h
  rw [C.ver r h, C.rho r h]
  have e1 : (ver + R.δ r ≤ E.ver r + R.δ r) ↔ ver ≤ E.ver r := by omega
  have e2 : (ver + R.δ r = E.ver r + R.δ r) ↔ ver = E.ver r := by omega
  rw [e1, e2]
  have e3 : (¬ Ec.abs (R.σ r)) ↔ ¬ E.abs r := not_congr (C.abs r h)
  simp only [e3]
 | .ref r ver sz i j, v, h => by
  simp only [renA, rep]
  rw [onA] at h
  rw [C.ver r h, C.rho r h]
  have e1 : (ver + R.δ r ≤ E.ver r + R.δ r) ↔ ver ≤ E.ver r := by omega
  have e2 : (ver + R.δ r = E.ver r + R.δ r) ↔ ver = E.ver r := by omega
  rw [e1, e2]
 | .cp z cells j, v, h => by
  simp only [renA, rep, C.zone]
  rw [onA] at h
  exact exists_congr fun b => exists_congr fun o => exists_congr fun cs => and_congr_right fun _ => and_congr_right fun _ => and_congr_left fun _ => reps_ren C cells cs h
 | .clo f caps, v, h => by
  simp only [renA, rep]
  rw [onA] at h
  exact exists_congr fun cs => and_congr_right fun _ => reps_ren C caps cs h
 | .yld r ver, v, h => by
  simp only [renA, rep]
  rw [onA] at h
  rw [C.ver r h, C.rho r h]
  exact ⟨fun ⟨a, b⟩ => ⟨by omega, fun e => b (by omega)⟩, fun ⟨a, b⟩ => ⟨by omega, fun e => b (by omega)⟩⟩
 | .mth f l, v, h => by
  simp only [renA, rep]
  rw [onA] at h
  exact exists_congr fun cs => and_congr_right fun _ => reps_ren C l cs h
 | .ifc t x, v, h => by
  simp only [renA, rep]
  rw [onA] at h
  exact exists_congr fun u => and_congr_right fun _ => rep_ren C x u h
 | .mp r ver, v, h => by
  simp only [renA, rep]
  rw [onA] at h
  rw [C.ver r h, C.rho r h]
  exact ⟨fun ⟨a, b⟩ => ⟨by omega, fun e => b (by omega)⟩, fun ⟨a, b⟩ => ⟨by omega, fun e => b (by omega)⟩⟩
 | .pl r ver i off n, v, h => by
  simp only [renA, rep]
  rw [onA] at h
  rw [C.ver r h, C.pl r h]
  exact ⟨fun ⟨a, b⟩ => ⟨by omega, fun e => b (by omega)⟩, fun ⟨a, b⟩ => ⟨by omega, fun e => b (by omega)⟩⟩
 | .plr r ver i k, v, h => by
  simp only [renA, rep]
  rw [onA] at h
  rw [C.ver r h, C.pl r h]
  exact ⟨fun ⟨a, b⟩ => ⟨by omega, fun e => b (by omega)⟩, fun ⟨a, b⟩ => ⟨by omega, fun e => b (by omega)⟩⟩
 | .gd φ x, v, h => by
  simp only [renA, rep]
  rw [onA] at h
  exact and_congr_left fun _ => forall_congr' fun _ => rep_ren C x v h
theorem reps_ren {D : Nat → Prop} {R : Ren} {E Ec : Env} {w : World} (C : Com D R E Ec) : ∀ (xs : List AV) (vs : List Value), onAs D xs → (reps E w xs vs ↔ reps Ec w (renAs R xs) vs)
 | [], vs, _ => by simp only [renAs, reps]
 | x :: xs, vs, h => by
  simp only [renAs, reps]
  rw [onAs] at h
  exact exists_congr fun v => exists_congr fun vs' => and_congr_right fun _ => and_congr (rep_ren C x v h.1) (reps_ren C xs vs' h.2)
end
def renB (R : Ren) : Bd → Bd
 | .dead => .dead
 | .bytes l => .bytes l
 | .row sz f d l => .row sz (fun a => renAs R (f a)) d l
 | .obj l => .obj (renAs R l)
 | .lp i tR st => .lp i (renAs R tR) st
 | .pool ls => .pool ls
def onB (D : Nat → Prop) : Bd → Prop
 | .dead => True
 | .bytes _ => True
 | .row _ f _ _ => ∀ a, onAs D (f a)
 | .obj l => onAs D l
 | .lp _ tR _ => onAs D tR
 | .pool _ => True
theorem renB_at {R : Ren} {b : Bd} {i : Nat} : (renB R b).at i = (b.at i).map (renAs R) := by
 cases b with
 | dead => rfl
 | bytes l => simp only [renB, Bd.at, Option.map_map, Function.comp_def, renAs, renA]
 | row sz f d l => simp only [renB, Bd.at, Option.map_map, Function.comp_def]
 | obj l => simp only [renB, Bd.at]; split <;> rfl
 | lp => rfl
 | pool => rfl
theorem renB_sz {R : Ren} {b : Bd} : (renB R b).sz = b.sz ∧ (renB R b).count = b.count ∧ (renB R b).live = b.live := by
 cases b <;> simp [renB, Bd.sz, Bd.count, Bd.live, renAs_len]
theorem renB_cel {R : Ren} {b : Bd} : (renB R b).cel = b.cel := by cases b <;> rfl
theorem renB_isP {R : Ren} {b : Bd} : (renB R b).isP = b.isP := by cases b <;> rfl
theorem renB_pool {R : Ren} {b : Bd} {ls : List (List UInt8)} (h : renB R b = .pool ls) : b = .pool ls := by cases b <;> simp only [renB] at h <;> first | (cases h; done) | exact h
theorem Com.blk {D : Nat → Prop} {R : Ren} {E Ec : Env} (C : Com D R E Ec) {r : Nat} (h : D r) (e : Ent) (v b : Nat) : Blk E r e b ↔ Blk Ec (R.σ r) ⟨v, renB R e.bd⟩ b := by
 unfold Blk Liv
 simp only [(renB_sz (R := R) (b := e.bd)).2.2, renB_isP, C.rho r h, C.abs r h, C.pl r h]
theorem onB_at {D : Nat → Prop} {b : Bd} (h : onB D b) {i : Nat} {ys : List AV} (hy : b.at i = some ys) : onAs D ys := by
 cases b with
 | dead => simp [Bd.at] at hy
 | bytes l =>
  simp only [Bd.at, Option.map_eq_some_iff] at hy
  obtain ⟨x, _, rfl⟩ := hy
  simp [onAs, onA]
 | row sz f d l =>
  simp only [Bd.at, Option.map_eq_some_iff] at hy
  obtain ⟨x, _, rfl⟩ := hy
  exact h x
 | obj l =>
  simp only [Bd.at] at hy
  split at hy
  ·cases hy; exact h
  ·cases hy
 | lp => simp [Bd.at] at hy
 | pool => simp [Bd.at] at hy
theorem EntRep.ren {D : Nat → Prop} {R : Ren} {E Ec : Env} {w : World} (C : Com D R E Ec) {b : Nat} {bd : Bd} (hon : onB D bd) : EntRep E w b bd ↔ EntRep Ec w b (renB R bd) := by
 obtain ⟨e1, e2, e3⟩ := renB_sz (R := R) (b := bd)
 constructor
 ·intro h
  refine ⟨fun hl => ?_, fun i tR st e => ?_⟩
  rotate_left
  ·cases hbd : bd <;> rw [hbd] at e <;> first | (cases e; done) | skip
   rename_i i' tR' st'
   simp only [renB, Bd.lp.injEq] at e
   obtain ⟨rfl, rfl, rfl⟩ := e
   obtain ⟨h0, Rr, h1, h2, h3, h4, h5, h6, h7, h8, h9⟩ := h.lp _ _ _ hbd
   rw [hbd] at hon
   exact ⟨h0, Rr, h1, h2, h3, h4, h5, h6, h7, (reps_ren C _ _ hon).1 h8, fun D hD => ⟨(exists_congr fun z => C.zone z D).2 (h9 D hD).1, (h9 D hD).2⟩⟩
  rw [renB_cel] at hl
  obtain ⟨cur, T, lo, hi, h1, h2, h3, h4⟩ := h.blk hl
  refine ⟨cur, T, lo, hi, h1, h2, by rw [e1, e2]; exact h3, fun i ys hy => ?_⟩
  rw [renB_at, Option.map_eq_some_iff] at hy
  obtain ⟨ys0, hy0, rfl⟩ := hy
  obtain ⟨cs, h5, h6, h7⟩ := h4 i ys0 hy0
  exact ⟨cs, by rw [e1]; exact h5, (reps_ren C _ _ (onB_at hon hy0)).1 h6, by rw [e1]; exact h7⟩
 ·intro h
  refine ⟨fun hl => ?_, fun i tR st e => ?_⟩
  rotate_left
  ·subst e
   obtain ⟨h0, Rr, h1, h2, h3, h4, h5, h6, h7, h8, h9⟩ := h.lp _ _ _ rfl
   exact ⟨h0, Rr, h1, h2, h3, h4, h5, h6, h7, (reps_ren C _ _ hon).2 h8, fun D hD => ⟨(exists_congr fun z => C.zone z D).1 (h9 D hD).1, (h9 D hD).2⟩⟩
  obtain ⟨cur, T, lo, hi, h1, h2, h3, h4⟩ := h.blk (by rw [renB_cel]; exact hl)
  refine ⟨cur, T, lo, hi, h1, h2, by rw [e1, e2] at h3; exact h3, fun i ys hy => ?_⟩
  obtain ⟨cs, h5, h6, h7⟩ := h4 i (renAs R ys) (by rw [renB_at, hy]; rfl)
  exact ⟨cs, by rw [e1] at h5; exact h5, (reps_ren C _ _ (onB_at hon hy)).2 h6, by rw [e1] at h7; exact h7⟩
/-! a call -/
def WeakE (e0 e : Ent) : Prop := e0.ver = e.ver ∧ (e.bd.live = true → e0.bd.live = true) ∧ (e0.bd.count = 0 → e.bd.count = 0) ∧ (e.bd.live = true → ∀ (E : Env) (w : World) (b : Nat), EntRep E w b e0.bd → EntRep E w b e.bd) ∧ ∀ ls, e.bd = .pool ls → e0.bd = .pool ls
theorem WeakE.refl (e : Ent) : WeakE e e := ⟨rfl, id, id, fun _ _ _ _ h => h, fun _ h => h⟩
theorem WeakE.dead (v : Nat) (b : Bd) : WeakE ⟨v, b⟩ ⟨v, .dead⟩ := ⟨rfl, (fun h => by cases h), (fun _ => rfl), (fun h => by cases h), fun _ h => by cases h⟩
theorem WeakE.blk {E : Env} {r b : Nat} {e0 e : Ent} (h : WeakE e0 e) (hb : Blk E r e b) : Blk E r e0 b := by
 rcases hb with ⟨h1, h2⟩ | ⟨h1, h2⟩
 ·exact .inl ⟨⟨h.2.1 h1.1, h1.2⟩, h2⟩
 ·obtain ⟨ls, he⟩ := isP_of h1
  have := h.2.2.2.2 ls (by rw [he])
  exact .inr ⟨by rw [this]; rfl, h2⟩
theorem WeakE.take (v : Nat) (l : List UInt8) (k : Nat) : WeakE ⟨v, .bytes l⟩ ⟨v, .bytes (l.take k)⟩ := by
 refine ⟨rfl, fun _ => rfl, fun h => ?_, fun _ E w b h => ⟨fun _ => ?_, fun _ _ _ q => by cases q⟩, fun _ q => by cases q⟩
 ·simp only [Bd.count] at h ⊢
  rw [List.length_take]; omega
 ·obtain ⟨cur, T, lo, hi, h1, h2, h3, h4⟩ := h.blk rfl
  refine ⟨cur, T, lo, hi, h1, h2, ?_, fun i ys hy => ?_⟩
  ·simp only [Bd.count, Bd.sz, Nat.mul_one] at h3 ⊢
   rw [List.length_take]; omega
  ·refine h4 i ys ?_
   simp only [Bd.at, List.getElem?_take] at hy ⊢
   split at hy
   ·exact hy
   ·cases hy
theorem WeakE.row (v sz : Nat) {α β : Type} {f : α → List AV} {d : α} {l : List α} {f' : β → List AV} {d' : β} {l' : List β} (h : l.map f = l'.map f') : WeakE ⟨v, .row sz f d l⟩ ⟨v, .row sz f' d' l'⟩ := by
 have hl : l.length = l'.length := by have := congrArg List.length h; simpa using this
 refine ⟨rfl, fun _ => rfl, fun q => ?_, fun _ E w b h0 => ⟨fun _ => ?_, fun _ _ _ q => by cases q⟩, fun _ q => by cases q⟩
 ·simp only [Bd.count] at q ⊢; omega
 ·obtain ⟨cur, T, lo, hi, h1, h2, h3, h4⟩ := h0.blk rfl
  refine ⟨cur, T, lo, hi, h1, h2, ?_, fun i ys hy => ?_⟩
  ·simp only [Bd.count, Bd.sz] at h3 ⊢; rwa [← hl]
  ·refine h4 i ys ?_
   simp only [Bd.at] at hy ⊢
   rw [← List.getElem?_map, ← h] at hy
   rw [← List.getElem?_map]; exact hy
def entOf (H : List Ent) (r : Nat) : Ent := match getL H r with
 | some e => e
 | none => ⟨0, .dead⟩
def usM (R : Ren) (H : List Ent) : List Nat → List (Nat × Ent)
 | [] => []
 | r :: rs => (R.σ r, ⟨(entOf H r).ver + R.δ r, renB R (entOf H r).bd⟩) :: usM R H rs
theorem updM_get {R : Ren} {H1 : List Ent} : ∀ {rs : List Nat} {H : List Ent}, rs.Nodup → (∀ a b, a ∈ rs → b ∈ rs → R.σ a = R.σ b → a = b) → (∀ a, a ∈ rs → R.σ a < H.length) →
    (updH H (usM R H1 rs)).length = H.length ∧ (∀ r, r ∈ rs → (updH H (usM R H1 rs))[R.σ r]? = some ⟨(entOf H1 r).ver + R.δ r, renB R (entOf H1 r).bd⟩) ∧ ∀ q, (∀ a, a ∈ rs → R.σ a ≠ q) → (updH H (usM R H1 rs))[q]? = H[q]?
 | [], H, _, _, _ => ⟨rfl, by simp, fun q _ => rfl⟩
 | r :: rs, H, hnd, hinj, hlt => by
  obtain ⟨hr, hnd'⟩ := List.nodup_cons.1 hnd
  simp only [usM, updH, setL_eq]
  obtain ⟨h1, h2, h3⟩ := updM_get (R := R) (H1 := H1) (rs := rs) (H := H.set (R.σ r) ⟨(entOf H1 r).ver + R.δ r, renB R (entOf H1 r).bd⟩) hnd' (fun a b ha hb => hinj a b (by simp [ha]) (by simp [hb])) (fun a ha => by rw [List.length_set]; exact hlt a (by simp [ha]))
  refine ⟨by rw [h1, List.length_set], fun k hk => ?_, fun q hq => ?_⟩
  ·rcases List.mem_cons.1 hk with rfl | hk
   ·rw [h3 _ (fun a ha he => hr (by rw [← hinj a k (by simp [ha]) (by simp) he]; exact ha))]
    exact List.getElem?_set_self (hlt k (by simp))
   ·exact h2 k hk
  ·rw [h3 q (fun a ha => hq a (by simp [ha]))]
   exact List.getElem?_set_ne (hq r (by simp))
theorem entOf_eq {H : List Ent} {r : Nat} (h : r < H.length) : H[r]? = some (entOf H r) := by
 unfold entOf
 rw [getL_eq, List.getElem?_eq_getElem h]
theorem call_sem {P : Program} {f : FuncId} {args0 : List AV} {H0 : List Ent} {post : AV → List Ent → Prop} (S : Spec P f args0 H0 post) (hent : ∀ (as : Array Value) (w : World), (callFunc f as).run P w = .ok (.enter f as) w)
    (R : Ren) (rs : List Nat) (hnd : rs.Nodup) (hp : ∀ r, r < H0.length → r ∈ rs ∧ R.δ r = 0) (hinj : ∀ a b, a ∈ rs → b ∈ rs → R.σ a = R.σ b → a = b) {args : List AV} {hg : Nat → Option Ent}
    (hargs : args = renAs R args0) (hon : onAs (· < H0.length) args0) (hrows : ∀ r e, H0[r]? = some e → onB (· < H0.length) e.bd ∧ ∃ e', hg (R.σ r) = some e' ∧ WeakE e' ⟨e.ver, renB R e.bd⟩)
    (had : ∀ r, r ∈ rs → H0.length ≤ r → ∃ e, hg (R.σ r) = some e ∧ e.ver < R.δ r)
    (hpost : ∀ x H1, post x H1 → onA (· ∈ rs) x ∧ ∀ r, r ∈ rs → r < H1.length ∧ onB (· ∈ rs) (entOf H1 r).bd) :
    CallSem P f args hg fun x us => ∃ x0 H1, post x0 H1 ∧ x = renA R x0 ∧ us = usM R H1 rs := by
 intro E H w cargs hr hh hcargs
 refine .inl ⟨hent _ _, ?_⟩
 -- the rows as the function sees them
 obtain ⟨E0, hE0⟩ : ∃ E0 : Env, E0 = { ρ := fun r => E.ρ (R.σ r), ver := fun r => if r < H0.length then E.ver (R.σ r) else 0, zone := E.zone, abs := fun r => if r < H0.length then E.abs (R.σ r) else False, pl := fun r => E.pl (R.σ r) } := ⟨_, rfl⟩
 have C0 : Com (· < H0.length) R E0 E := by
  subst hE0
  exact ⟨fun r h => by simp [h, (hp r h).2], fun r h => rfl, fun r h => by simp [h], fun z b => Iff.rfl, fun r h => rfl⟩
 have hlt : ∀ r, r ∈ rs → R.σ r < H.length := by
  intro r hr'
  by_cases h : r < H0.length
  ·obtain ⟨_, e', he', _⟩ := hrows r _ (entOf_eq h)
   exact (List.getElem?_eq_some_iff.1 (hh _ _ he')).1
  ·obtain ⟨e, he, _⟩ := had r hr' (by omega)
   exact (List.getElem?_eq_some_iff.1 (hh _ _ he)).1
 have hgetW : ∀ (r : Nat) (e : Ent), H0[r]? = some e → ∃ e', H[R.σ r]? = some e' ∧ WeakE e' ⟨e.ver, renB R e.bd⟩ := fun r e he => by
  obtain ⟨_, e', h1, h2⟩ := hrows r e he
  exact ⟨e', hh _ _ h1, h2⟩
 have hget0 : ∀ (r : Nat) (e : Ent), H0[r]? = some e → r < H0.length := fun r e he => (List.getElem?_eq_some_iff.1 he).1
 have hlivW : ∀ (r : Nat) (e : Ent), H0[r]? = some e → Liv E0 r e → ∃ e', H[R.σ r]? = some e' ∧ WeakE e' ⟨e.ver, renB R e.bd⟩ ∧ Liv E (R.σ r) e' := by
  intro r e he hl
  obtain ⟨e', h1, h2⟩ := hgetW r e he
  refine ⟨e', h1, h2, h2.2.1 ?_, fun q => hl.2 ((C0.abs r (hget0 r e he)).1 q)⟩
  rw [(renB_sz (R := R) (b := e.bd)).2.2]; exact hl.1
 have hblkW : ∀ (r : Nat) (e : Ent) (b : Nat), H0[r]? = some e → Blk E0 r e b → ∃ e', H[R.σ r]? = some e' ∧ Blk E (R.σ r) e' b := by
  intro r e b he hl
  obtain ⟨e', h1, h2⟩ := hgetW r e he
  exact ⟨e', h1, h2.blk ((C0.blk (hget0 r e he) e e.ver b).1 hl)⟩
 have hr0 : HR E0 w H0 := by
  refine ⟨fun r e he => ?_, fun r e he hl => ?_, fun r e he ha => ?_, fun r r' e e' b he he' hl hl' => ?_, ?_, fun r e b he hl z hz => ?_, fun r hge => ?_, by subst hE0; exact hr.gl, fun r v ls he => ?_⟩
  ·have := C0.ver r (hget0 r e he)
   rw [(hp r (hget0 r e he)).2] at this
   obtain ⟨e', h1, h2⟩ := hgetW r e he
   have h3 := hr.ver _ _ h1
   have h4 := h2.1
   simp only at h4; omega
  ·obtain ⟨e', h1, h2, h3⟩ := hlivW r e he hl
   have := hr.ent _ _ h1 h3
   rw [C0.rho r (hget0 r e he)] at this
   refine (EntRep.ren C0 (hrows r e he).1).2 (h2.2.2.2.1 ?_ _ _ _ this)
   show (renB R e.bd).live = true
   rw [(renB_sz (R := R) (b := e.bd)).2.2]; exact hl.1
  ·obtain ⟨e', h1, h2⟩ := hgetW r e he
   have := h2.2.2.1 (hr.abs _ _ h1 ((C0.abs r (hget0 r e he)).2 ha))
   rwa [(renB_sz (R := R) (b := e.bd)).2.1] at this
  ·obtain ⟨e1, h1, h3⟩ := hblkW r e b he hl
   obtain ⟨e2, g1, g3⟩ := hblkW r' e' b he' hl'
   exact hinj r r' (hp r (hget0 r e he)).1 (hp r' (hget0 r' e' he')).1 (hr.inj _ _ _ _ b h1 g1 h3 g3)
  ·subst hE0; exact hr.zlt
  ·obtain ⟨e1, h1, h3⟩ := hblkW r e b he hl
   exact hr.zrow _ _ b h1 h3 z ((C0.zone z _).2 hz)
  ·subst hE0
   have : ¬ r < H0.length := by omega
   simp [this]
  ·obtain ⟨e', h1, h2⟩ := hgetW r _ he
   have h3 := h2.2.2.2.2 ls rfl
   rw [← C0.pl r (hget0 r _ he)]
   exact hr.pool _ e'.ver ls (by rw [h1, ← h3])
 have hargs0 : reps E0 w args0 cargs := (reps_ren C0 args0 cargs hon).2 (hargs ▸ hcargs)
 refine Calls.mono (S w E0 cargs hr0 hargs0) fun e w' ⟨v, x0, H1, E1, he, hpo, hv, hr1, X1, hz1, hlen1, hrows1, hfr⟩ => ?_
 obtain ⟨honx, honr⟩ := hpost x0 H1 hpo
 obtain ⟨hul, hug, hun⟩ := updM_get (R := R) (H1 := H1) (H := H) hnd hinj hlt
 -- the caller's addresses behind the call
 obtain ⟨inv, hinv⟩ : ∃ inv : Nat → Option Nat, ∀ q, (∀ r, inv q = some r → r ∈ rs ∧ R.σ r = q) ∧ (inv q = none → ∀ r, r ∈ rs → R.σ r ≠ q) := by
  refine ⟨fun q => rs.find? (fun r => R.σ r == q), fun q => ⟨fun r h => ?_, fun h r hr' he => ?_⟩⟩
  ·exact ⟨List.mem_of_find?_eq_some h, by simpa using List.find?_some h⟩
  ·have := List.find?_eq_none.1 h r hr'
   simp [he] at this
 have hinvσ : ∀ r, r ∈ rs → inv (R.σ r) = some r := by
  intro r hr'
  cases hq : inv (R.σ r) with
  | none => exact absurd rfl ((hinv _).2 hq r hr')
  | some r' =>
   obtain ⟨h1, h2⟩ := (hinv _).1 r' hq
   rw [hinj r' r h1 hr' h2]
 obtain ⟨E', hE'⟩ : ∃ E' : Env, E' = { ρ := fun q => match inv q with | some r => E1.ρ r | none => E.ρ q, ver := fun q => match inv q with | some r => E1.ver r + R.δ r | none => E.ver q, zone := E1.zone, abs := fun q => match inv q with | some r => E1.abs r | none => E.abs q, pl := fun q => match inv q with | some r => E1.pl r | none => E.pl q } := ⟨_, rfl⟩
 have C1 : Com (· ∈ rs) R E1 E' := by
  subst hE'
  exact ⟨fun r h => by simp [hinvσ r h], fun r h => by simp [hinvσ r h], fun r h => by simp [hinvσ r h], fun z b => Iff.rfl, fun r h => by simp [hinvσ r h]⟩
 have hE'n : ∀ q, (∀ r, r ∈ rs → R.σ r ≠ q) → E'.ρ q = E.ρ q ∧ E'.ver q = E.ver q ∧ E'.abs q = E.abs q ∧ E'.pl q = E.pl q := by
  intro q hq
  subst hE'
  have : inv q = none := by
   cases h : inv q with
   | none => rfl
   | some r => exact absurd ((hinv q).1 r h).2 (hq r ((hinv q).1 r h).1)
  simp [this]
 have hcase : ∀ q, (∃ r, r ∈ rs ∧ R.σ r = q) ∨ (∀ r, r ∈ rs → R.σ r ≠ q) := by
  intro q
  cases h : inv q with
  | some r => exact .inl ⟨r, (hinv q).1 r h⟩
  | none => exact .inr ((hinv q).2 h)
 have hEz : ∀ z b, E0.zone z b ↔ E.zone z b := fun z b => (C0.zone z b).symm
 -- a row of the caller's that was not handed in keeps its block
 have hkeep : ∀ k, k < w.heap.size → (∀ (r : Nat) (e : Ent), H0[r]? = some e → ¬ Blk E0 r e k) → w'.heap[k]? = w.heap[k]? := fun k hk h => hfr.block k hk h
 have hother : ∀ (q : Nat) (e : Ent) (b : Nat), H[q]? = some e → Blk E q e b → (∀ r, r ∈ rs → R.σ r ≠ q) → ∀ (r : Nat) (e0 : Ent), H0[r]? = some e0 → ¬ Blk E0 r e0 b := by
  intro q e b hq hl hne r e0 he0 hl0
  obtain ⟨e1, h1, h3⟩ := hblkW r e0 b he0 hl0
  exact hne r (hp r (hget0 r e0 he0)).1 (hr.inj _ _ _ _ b h1 hq h3 hl)
 have hEver : ∀ r, r ∈ rs → H0.length ≤ r → E.ver (R.σ r) < R.δ r := by
  intro r hr' hge
  obtain ⟨e, he, hlt'⟩ := had r hr' hge
  rw [hr.ver _ _ (hh _ _ he)]; exact hlt'
 have hv0 : ∀ r, r < H0.length → E.ver (R.σ r) = E0.ver r ∧ E'.ver (R.σ r) = E1.ver r := by
  intro r h
  have h1 := C0.ver r h
  have h2 := C1.ver r (hp r h).1
  rw [(hp r h).2] at h1 h2
  exact ⟨h1, h2⟩
 have X : Ext E E' w w' := by
  refine ⟨fun q => ?_, fun q e => ?_, fun q e => ?_, fun z b hz => ?_, fun z b hz => X1.cell z b ((hEz z b).2 hz), fun k cur T fz hc => hfr.grow _ cur T fz hc, fun q e i b hi => ?_⟩
  ·rcases hcase q with ⟨r, hr', rfl⟩ | hq
   ·by_cases h : r < H0.length
    ·rw [(hv0 r h).1, (hv0 r h).2]; exact X1.ver r
    ·have := hEver r hr' (by omega)
     have := C1.ver r hr'
     omega
   ·rw [(hE'n q hq).2.1]; exact Nat.le_refl _
  ·rcases hcase q with ⟨r, hr', rfl⟩ | hq
   ·by_cases h : r < H0.length
    ·rw [(hv0 r h).1, (hv0 r h).2] at e
     rw [C1.rho r hr', C0.rho r h]; exact X1.rho r e
    ·have := hEver r hr' (by omega)
     have := C1.ver r hr'
     omega
   ·exact (hE'n q hq).1
  ·rcases hcase q with ⟨r, hr', rfl⟩ | hq
   ·by_cases h : r < H0.length
    ·rw [(hv0 r h).1, (hv0 r h).2] at e
     rw [C1.abs r hr', C0.abs r h]; exact X1.abs r e
    ·have := hEver r hr' (by omega)
     have := C1.ver r hr'
     omega
   ·rw [(hE'n q hq).2.2.1]
  ·exact (C1.zone z b).2 (X1.zone z b ((hEz z b).2 hz))
  ·rcases hcase q with ⟨r, hr', rfl⟩ | hq
   ·by_cases h : r < H0.length
    ·rw [(hv0 r h).1, (hv0 r h).2] at e
     rw [C1.pl r hr']
     rw [C0.pl r h] at hi
     exact X1.pl r e i b hi
    ·have := hEver r hr' (by omega)
     have := C1.ver r hr'
     omega
   ·rw [(hE'n q hq).2.2.2]; exact hi
 have hgetU : ∀ (q : Nat) (e : Ent), (updH H (usM R H1 rs))[q]? = some e → (∃ r, r ∈ rs ∧ R.σ r = q ∧ e = ⟨(entOf H1 r).ver + R.δ r, renB R (entOf H1 r).bd⟩) ∨ ((∀ r, r ∈ rs → R.σ r ≠ q) ∧ H[q]? = some e) := by
  intro q e he
  rcases hcase q with ⟨r, hr', rfl⟩ | hq
  ·rw [hug r hr'] at he
   exact .inl ⟨r, hr', rfl, (Option.some.inj he).symm⟩
  ·rw [hun q hq] at he
   exact .inr ⟨hq, he⟩
 have hlivU : ∀ r, r ∈ rs → (Liv E1 r (entOf H1 r) ↔ Liv E' (R.σ r) ⟨(entOf H1 r).ver + R.δ r, renB R (entOf H1 r).bd⟩) := by
  intro r hr'
  unfold Liv
  rw [(renB_sz (R := R) (b := (entOf H1 r).bd)).2.2, C1.abs r hr']
 have hlivO : ∀ (q : Nat) (e : Ent), (∀ r, r ∈ rs → R.σ r ≠ q) → (Liv E' q e ↔ Liv E q e) := by
  intro q e hq
  unfold Liv
  rw [(hE'n q hq).2.2.1]
 have hblkO : ∀ (q : Nat) (e : Ent) (b : Nat), (∀ r, r ∈ rs → R.σ r ≠ q) → (Blk E' q e b ↔ Blk E q e b) := by
  intro q e b hq
  unfold Blk
  rw [hlivO q e hq, (hE'n q hq).1, (hE'n q hq).2.2.2]
 have hrowsU : ∀ r b, r ∈ rs → Blk E1 r (entOf H1 r) b → w.heap.size ≤ b ∨ ∃ (r0 : Nat) (e0 : Ent), H0[r0]? = some e0 ∧ Blk E0 r0 e0 b := fun r b hr' hl => hrows1 r _ b (entOf_eq (honr r hr').1) hl
 have hHR : HR E' w' (updH H (usM R H1 rs)) := by
  refine ⟨fun q e he => ?_, fun q e he hl => ?_, fun q e he ha => ?_, fun q q' e e' b he he' hl hl' => ?_, fun z b hz => hr1.zlt z b ((C1.zone z b).1 hz), fun q e b he hl z hz => ?_, fun q hge => ?_, hr.gl.ext X, fun q v ls he => ?_⟩
  ·rcases hgetU q e he with ⟨r, hr', rfl, rfl⟩ | ⟨hq, he⟩
   ·rw [C1.ver r hr', hr1.ver r _ (entOf_eq (honr r hr').1)]
   ·rw [(hE'n q hq).2.1]; exact hr.ver q e he
  ·rcases hgetU q e he with ⟨r, hr', rfl, rfl⟩ | ⟨hq, he⟩
   ·rw [C1.rho r hr']
    exact (EntRep.ren C1 (honr r hr').2).1 (hr1.ent r _ (entOf_eq (honr r hr').1) ((hlivU r hr').2 hl))
   ·rw [(hE'n q hq).1]
    have hl := (hlivO q e hq).1 hl
    exact (hr.ent q e he hl).ext X (hkeep _ (hr.lt he hl) (hother q e _ he (Blk.of hl) hq))
  ·rcases hgetU q e he with ⟨r, hr', rfl, rfl⟩ | ⟨hq, he⟩
   ·rw [(renB_sz (R := R)).2.1]
    exact hr1.abs r _ (entOf_eq (honr r hr').1) ((C1.abs r hr').1 ha)
   ·rw [(hE'n q hq).2.2.1] at ha; exact hr.abs q e he ha
  ·have mixed : ∀ (r q : Nat) (e : Ent), r ∈ rs → Blk E1 r (entOf H1 r) b → (∀ r, r ∈ rs → R.σ r ≠ q) → H[q]? = some e → ¬ Blk E q e b := by
     intro r q e hr' hl hq he hl2
     rcases hrowsU r b hr' hl with h | ⟨r0, e0, h2, h3⟩
     ·have := hr.blt he hl2; omega
     ·exact hother q e b he hl2 hq r0 e0 h2 h3
   rcases hgetU q e he with ⟨r, hr', rfl, rfl⟩ | ⟨hq, he⟩ <;> rcases hgetU q' e' he' with ⟨r2, hr2, rfl, rfl⟩ | ⟨hq2, he2⟩
   ·rw [hr1.inj r r2 _ _ b (entOf_eq (honr r hr').1) (entOf_eq (honr r2 hr2).1) ((C1.blk hr' _ _ b).2 hl) ((C1.blk hr2 _ _ b).2 hl')]
   ·exact absurd ((hblkO q' e' b hq2).1 hl') (mixed r q' e' hr' ((C1.blk hr' _ _ b).2 hl) hq2 he2)
   ·exact absurd ((hblkO q e b hq).1 hl) (mixed r2 q e hr2 ((C1.blk hr2 _ _ b).2 hl') hq he)
   ·exact hr.inj q q' e e' b he he2 ((hblkO q e b hq).1 hl) ((hblkO q' e' b hq2).1 hl')
  ·have hz := (C1.zone z _).1 hz
   rcases hgetU q e he with ⟨r, hr', rfl, rfl⟩ | ⟨hq, he⟩
   ·exact hr1.zrow r _ b (entOf_eq (honr r hr').1) ((C1.blk hr' _ _ b).2 hl) z hz
   ·have hl := (hblkO q e b hq).1 hl
    rcases hz1 z _ hz with h | h | ⟨r0, e0, h2, h3⟩
    ·exact hr.zrow q e b he hl z ((hEz z _).1 h)
    ·have := hr.blt he hl; omega
    ·exact hother q e b he hl hq r0 e0 h2 h3
  ·rw [hul] at hge
   have hq : ∀ r, r ∈ rs → R.σ r ≠ q := fun r hr' h => by have := hlt r hr'; omega
   rw [(hE'n q hq).2.1, (hE'n q hq).2.2.1]
   exact hr.top q hge
  ·rcases hgetU q _ he with ⟨r, hr', rfl, h1⟩ | ⟨hq, he⟩
   ·have h2 := renB_pool (Ent.mk.inj h1).2.symm
    rw [C1.pl r hr']
    exact hr1.pool r (entOf H1 r).ver ls (by rw [entOf_eq (honr r hr').1, ← h2])
   ·rw [(hE'n q hq).2.2.2]
    exact (hr.pool q v ls he).cong fun i b hb => hkeep b ((hr.pool q v ls he).lt hb) (hother q _ b he (.inr ⟨rfl, i, hb⟩) hq)
 have hin : ∀ r, r ∈ rs → R.σ r ∈ (usM R H1 rs).map (·.1) := by
  intro r
  have : ∀ (l : List Nat), r ∈ l → R.σ r ∈ (usM R H1 l).map (·.1) := by
   intro l
   induction l with
   | nil => intro h; simp at h
   | cons a l ih =>
    intro h
    simp only [usM, List.map_cons, List.mem_cons]
    rcases List.mem_cons.1 h with rfl | h
    ·exact .inl rfl
    ·exact .inr (ih h)
  exact this rs
 refine ⟨v, he, renA R x0, usM R H1 rs, E', ⟨x0, H1, hpo, rfl, rfl⟩, (rep_ren C1 x0 v honx).1 hv, ⟨X, hHR, hfr.os, hfr.tape, hfr.output, hfr.size, fun z b hz => ?_, hfr.grow, fun k hk hb => ?_, fun q e b he hl => ?_⟩⟩
 ·exact (hz1 z b ((C1.zone z b).1 hz)).imp (hEz z b).1 (Or.imp id fun ⟨r0, e0, h2, h3⟩ => let ⟨e', g1, g2⟩ := hblkW r0 e0 b h2 h3; ⟨_, e', g1, g2⟩)
 ·refine hkeep k hk fun r e0 he0 hl0 => ?_
  obtain ⟨e1, g1, g3⟩ := hblkW r e0 k he0 hl0
  exact hb (R.σ r) _ g1 g3 (hin r (hp r (hget0 r e0 he0)).1)
 ·rcases hgetU q e he with ⟨r, hr', rfl, rfl⟩ | ⟨hq, he⟩
  ·rcases hrowsU r b hr' ((C1.blk hr' _ _ b).2 hl) with h | ⟨r0, e0, h2, h3⟩
   ·exact .inl h
   ·obtain ⟨e1, g1, g3⟩ := hblkW r0 e0 b h2 h3
    exact .inr ⟨R.σ r0, _, g1, g3, .inr (hin r0 (hp r0 (hget0 r0 e0 h2)).1)⟩
  ·exact .inr ⟨q, e, he, (hblkO q e b hq).1 hl, .inl rfl⟩
theorem callK_of {P : Program} {f : FuncId} {caps args : List AV} {hg : Nat → Option Ent} {K : AV → List (Nat × Ent) → Prop} {post : AV → List (Nat × Ent) → Prop} (h : CallSem P f (args ++ caps) hg post) (hK : ∀ v us, post v us → K v us) : callK P (.clo f caps) args hg K := by
 unfold callK
 exact ⟨f, caps, rfl, post, h, hK⟩
end Go.Proofs.YtmjpbmcbcppkfaaGreatDoor

/-! Abstract values: a region that draws its order: one order is enough. Conditions: the premises of 'draw_of'. -/
namespace Go.Proofs.YtmjpbmcbcppkfaaGreatDoor
set_option linter.unusedVariables false
set_option linter.unusedSimpArgs false
open Go.RowKit
abbrev Us := List (Nat × Ent)
def lastU : Us → Nat → Option Ent
 | [], _ => none
 | (q, e) :: us, r => match lastU us r with
  | some e' => some e'
  | none => if q = r then some e else none
theorem updH_getU : ∀ (us : Us) (H : List Ent) (r : Nat), (updH H us)[r]? = (H[r]?).map fun e0 => (lastU us r).getD e0
 | [], H, r => by simp [updH, lastU]
 | (q, e) :: us, H, r => by
  simp only [updH, setL_eq, lastU]
  rw [updH_getU us]
  by_cases hq : q = r
  ·subst hq
   by_cases hlt : q < H.length
   ·rw [List.getElem?_set_self hlt, List.getElem?_eq_getElem hlt]
    cases lastU us q <;> simp
   ·rw [List.getElem?_eq_none (by simpa using hlt), List.getElem?_eq_none (by simpa using hlt)]; rfl
  ·rw [List.getElem?_set_ne hq]
   cases lastU us r <;> simp [hq]
theorem updH_length : ∀ (us : Us) (H : List Ent), (updH H us).length = H.length
 | [], _ => rfl
 | (q, e) :: us, H => by simp only [updH, setL_eq]; rw [updH_length us]; simp
abbrev Tr := List (Nat × AV × Us)
section
variable (dst : Nat → Option Tmp)
def app1 (i : Nat) (v : AV) (us : Us) (s : St) : St := ⟨setD s.t (dst i) v, updH s.H us⟩
def appL (L : Nat → Bool) : Tr → St → St
 | [], s => s
 | (i, v, us) :: tr, s => appL L tr (if L i then app1 dst i v us s else s)
def lastT (L : Nat → Bool) : Tr → Nat → Option Ent
 | [], _ => none
 | (i, _, us) :: tr, r => match lastT L tr r with
  | some e => some e
  | none => if L i then lastU us r else none
def lastS (L : Nat → Bool) : Tr → Nat → Option AV
 | [], _ => none
 | (i, v, _) :: tr, k => match lastS L tr k with
  | some e => some e
  | none => if L i && dst i == some k then some v else none
theorem setD_get (t : List AV) (d : Option Tmp) (v : AV) (k : Nat) : (setD t d v)[k]? = (t[k]?).map fun x0 => if d = some k then v else x0 := by
 cases d with
 | none => simp [setD]
 | some d =>
  simp only [setD, setL_eq, Option.some.injEq]
  by_cases hd : d = k
  ·subst hd
   by_cases hlt : d < t.length
   ·rw [List.getElem?_set_self hlt, List.getElem?_eq_getElem hlt]; simp
   ·rw [List.getElem?_eq_none (by simpa using hlt), List.getElem?_eq_none (by simpa using hlt)]; rfl
  ·rw [List.getElem?_set_ne hd]; simp [hd]
theorem appL_H (L : Nat → Bool) : ∀ (tr : Tr) (s : St) (r : Nat), (appL dst L tr s).H[r]? = (s.H[r]?).map fun e0 => (lastT L tr r).getD e0
 | [], s, r => by simp [appL, lastT]
 | (i, v, us) :: tr, s, r => by
  simp only [appL, lastT]
  rw [appL_H L tr]
  cases hL : L i
  ·simp only [Bool.false_eq_true, if_false]
   cases lastT L tr r <;> simp
  ·simp only [if_true, app1, updH_getU, Option.map_map]
   cases lastT L tr r <;> simp [Function.comp_def]
theorem appL_t (L : Nat → Bool) : ∀ (tr : Tr) (s : St) (k : Nat), (appL dst L tr s).t[k]? = (s.t[k]?).map fun e0 => (lastS dst L tr k).getD e0
 | [], s, r => by simp [appL, lastS]
 | (i, v, us) :: tr, s, k => by
  simp only [appL, lastS]
  rw [appL_t L tr]
  cases hL : L i
  ·simp only [Bool.false_eq_true, if_false, Bool.false_and]
   cases lastS dst L tr k <;> simp
  ·simp only [if_true, app1, setD_get, Option.map_map, Bool.true_and]
   cases lastS dst L tr k with
   | some e => simp [Function.comp_def]
   | none =>
    simp only [Option.getD_none, Function.comp_def]
    by_cases hd : dst i = some k
    ·simp [hd]
    ·simp [hd]
theorem St.ext' {s s' : St} (h1 : ∀ k : Nat, s.t[k]? = s'.t[k]?) (h2 : ∀ r : Nat, s.H[r]? = s'.H[r]?) : s = s' := by
 cases s; cases s'
 simp only [St.mk.injEq]
 exact ⟨List.ext_getElem? h1, List.ext_getElem? h2⟩
theorem lastT_append (L : Nat → Bool) : ∀ (a b : Tr) (r : Nat), lastT L (a ++ b) r = (lastT L b r).or (lastT L a r)
 | [], b, r => by simp [lastT]
 | (i, v, us) :: a, b, r => by
  simp only [List.cons_append, lastT]
  rw [lastT_append L a b]
  cases lastT L b r <;> simp
theorem lastS_append (L : Nat → Bool) : ∀ (a b : Tr) (r : Nat), lastS dst L (a ++ b) r = (lastS dst L b r).or (lastS dst L a r)
 | [], b, r => by simp [lastS]
 | (i, v, us) :: a, b, r => by
  simp only [List.cons_append, lastS]
  rw [lastS_append L a b]
  cases lastS dst L b r <;> simp
theorem lastT_congr {L L' : Nat → Bool} {r : Nat} : ∀ {tr : Tr}, (∀ y ∈ tr, lastU y.2.2 r ≠ none → L y.1 = L' y.1) → lastT L tr r = lastT L' tr r
 | [], _ => rfl
 | (i, v, us) :: tr, h => by
  simp only [lastT]
  rw [lastT_congr (tr := tr) (fun y hy => h y (by simp [hy]))]
  by_cases hu : lastU us r = none
  ·simp [hu]
  ·rw [h (i, v, us) (by simp) hu]
theorem lastT_none {L : Nat → Bool} {r : Nat} : ∀ {tr : Tr}, (∀ y ∈ tr, lastU y.2.2 r ≠ none → L y.1 = false) → lastT L tr r = none
 | [], _ => rfl
 | (i, v, us) :: tr, h => by
  simp only [lastT]
  rw [lastT_none (tr := tr) (fun y hy => h y (by simp [hy]))]
  by_cases hu : lastU us r = none
  ·simp [hu]
  ·simp [h (i, v, us) (by simp) hu]
theorem lastS_congr {L L' : Nat → Bool} {k : Nat} : ∀ {tr : Tr}, (∀ y ∈ tr, dst y.1 = some k → L y.1 = L' y.1) → lastS dst L tr k = lastS dst L' tr k
 | [], _ => rfl
 | (i, v, us) :: tr, h => by
  simp only [lastS]
  rw [lastS_congr (tr := tr) (fun y hy => h y (by simp [hy]))]
  by_cases hu : dst i = some k
  ·rw [h (i, v, us) (by simp) hu]
  ·simp [hu]
theorem lastS_none {L : Nat → Bool} {k : Nat} : ∀ {tr : Tr}, (∀ y ∈ tr, dst y.1 = some k → L y.1 = false) → lastS dst L tr k = none
 | [], _ => rfl
 | (i, v, us) :: tr, h => by
  simp only [lastS]
  rw [lastS_none (tr := tr) (fun y hy => h y (by simp [hy]))]
  by_cases hu : dst i = some k
  ·simp [h (i, v, us) (by simp) hu]
  ·simp [hu]
theorem appL_add {L : Nat → Bool} {t1 t2 : Tr} {i : Nat} {v : AV} {us : Us} {s : St} (hi : L i = false) (h1 : ∀ y ∈ t1, y.1 ≠ i) (h2 : ∀ y ∈ t2, y.1 ≠ i)
    (hS : ∀ y ∈ t2, ∀ k, dst i = some k → dst y.1 = some k → L y.1 = false) (hH : ∀ y ∈ t2, ∀ r, lastU us r ≠ none → lastU y.2.2 r ≠ none → L y.1 = false) :
    appL dst (fun j => L j || j == i) (t1 ++ (i, v, us) :: t2) s = app1 dst i v us (appL dst L (t1 ++ (i, v, us) :: t2) s) := by
 have e1 : ∀ {tr : Tr}, (∀ y ∈ tr, y.1 ≠ i) → ∀ r, lastT (fun j => L j || j == i) tr r = lastT L tr r := fun h r => lastT_congr fun y hy _ => by simp [h y hy]
 have e2 : ∀ {tr : Tr}, (∀ y ∈ tr, y.1 ≠ i) → ∀ k, lastS dst (fun j => L j || j == i) tr k = lastS dst L tr k := fun h k => lastS_congr dst fun y hy _ => by simp [h y hy]
 refine St.ext' (fun k => ?_) (fun r => ?_)
 ·rw [appL_t]
  simp only [app1, setD_get, appL_t, Option.map_map]
  congr 1
  funext x0
  simp only [Function.comp_def]
  rw [lastS_append, lastS_append]
  simp only [lastS, e2 h1, e2 h2, hi, Bool.false_or, beq_self_eq_true, Bool.true_and, Bool.false_and, Bool.false_eq_true, if_false]
  by_cases hd : dst i = some k
  ·have := lastS_none dst (L := L) (k := k) (tr := t2) (fun y hy h => hS y hy k hd h)
   simp [this, hd]
  ·simp only [hd, beq_iff_eq, if_false]
 ·rw [appL_H]
  simp only [app1, updH_getU, appL_H, Option.map_map]
  congr 1
  funext e0
  simp only [Function.comp_def]
  rw [lastT_append, lastT_append]
  simp only [lastT, e1 h1, e1 h2, hi, Bool.false_or, beq_self_eq_true, if_true, Bool.false_eq_true, if_false]
  by_cases hu : lastU us r = none
  ·simp [hu]
  ·have := lastT_none (L := L) (r := r) (tr := t2) (fun y hy h => hH y hy r hu h)
   obtain ⟨e, he⟩ := Option.ne_none_iff_exists'.1 hu
   simp [this, he]
theorem appL_same_H {L : Nat → Bool} {t1 t2 : Tr} {s : St} {r : Nat} (h1 : ∀ y ∈ t1, lastU y.2.2 r ≠ none → L y.1 = true) (h2 : ∀ y ∈ t2, lastU y.2.2 r ≠ none → L y.1 = false) :
    (appL dst L (t1 ++ t2) s).H[r]? = (appL dst (fun _ => true) t1 s).H[r]? := by
 rw [appL_H, appL_H, lastT_append, lastT_none h2, lastT_congr (L' := fun _ => true) (fun y hy h => h1 y hy h)]
 simp
theorem appL_same_t {L : Nat → Bool} {t1 t2 : Tr} {s : St} {k : Nat} (h1 : ∀ y ∈ t1, dst y.1 = some k → L y.1 = true) (h2 : ∀ y ∈ t2, dst y.1 = some k → L y.1 = false) :
    getA (appL dst L (t1 ++ t2) s).t k = getA (appL dst (fun _ => true) t1 s).t k := by
 unfold getA
 rw [getL_eq, getL_eq, appL_t, appL_t, lastS_append, lastS_none dst h2, lastS_congr dst (L' := fun _ => true) (fun y hy h => h1 y hy h)]
 simp
end
end Go.Proofs.YtmjpbmcbcppkfaaGreatDoor

/-! Abstract values: a region that draws its order: one order is enough. Conditions: the premises of 'draw_of'. -/
namespace Go.Proofs.YtmjpbmcbcppkfaaGreatDoor
set_option linter.unusedVariables false
set_option linter.unusedSimpArgs false
open Go.RowKit
def tmpsOf : List Operand → List Tmp
 | [] => []
 | .tmp i :: xs => i :: tmpsOf xs
 | _ :: xs => tmpsOf xs
theorem tmpsOf_mem : ∀ {xs : List Operand} {i : Tmp}, Operand.tmp i ∈ xs → i ∈ tmpsOf xs
 | x :: xs, i, h => by
  rcases List.mem_cons.1 h with h | h
  ·subst h; simp [tmpsOf]
  ·have := tmpsOf_mem h
   cases x <;> simp [tmpsOf, this]
def looksOf (ops : Array Oper) (o : Oper) : List Tmp := tmpsOf (opnds o.op) ++ (match o.guard with
 | none => []
 | some (j, _) => ((ops[j]?).bind (·.dst)).toList)
def isCall (o : Oper) : Bool := match o.op with
 | .call c => match c.callee with
  | .value _ => true
  | _ => false
 | _ => false
def ownId (p : Nat) : Option Tmp → Option Nat
 | some d => some (p + d)
 | none => none
def okU (V : Nat → Option Ent) (eff : Bool) (own : Option Nat) : Us → Prop
 | [] => True
 | (r, e) :: us => (match eff with
  | true => own = some r ∨ V r ≠ none
  | false => own = some r ∨ V r = some e) ∧ okU V eff own us
def contD (V : Nat → Option Ent) (eff : Bool) (own : Option Nat) (s : St) (dst : Option Tmp) (K : St → Prop) (v : AV) (us : Us) : Prop := okU V eff own us ∧ K ⟨setD s.t dst v, updH s.H us⟩
def stepD (tb : TypeId → Option TI) (p : Nat) (V : Nat → Option Ent) (eff : Bool) (o : Oper) (s : St) (K : St → Prop) : Prop :=
 gpOs s.t (opnds o.op) ∧ stepK tb p o (evA s.t) V fun Φ v us => Φ ∧ okU V eff (ownId p o.dst) us ∧ K ⟨setD s.t o.dst v, updH s.H us⟩
def opDU (tb : TypeId → Option TI) (P : Program) (p : Nat) (V : Nat → Option Ent) (eff : Bool) (o : Oper) (s : St) (K : St → Prop) : Prop := match o.op with
 | .call c => match c.callee with
  | .value f => gpOs s.t (opnds o.op) ∧ callK P (evA s.t f) (c.args.toList.map (evA s.t)) V (contD V eff (ownId p o.dst) s o.dst K)
  | _ => stepD tb p V eff o s K
 | .pick c a b => pickK s.t c a b fun Φ v => Φ ∧ K ⟨setD s.t o.dst v, s.H⟩
 | _ => stepD tb p V eff o s K
def gdD (V : Nat → Option Ent) (eff : Bool) (G A : Prop) (own : Option Nat) (s : St) (dst : Option Tmp) (K : St → Prop) (Φ : Prop) (v : AV) (us : Us) : Prop := match us with
 | [] => (G → A ∧ Φ) ∧ us = [] ∧ K ⟨setD s.t dst (.gd G v), s.H⟩
 | _ :: _ => (G → (A ∧ Φ ∧ okU V eff own us) ∧ K ⟨setD s.t dst v, updH s.H us⟩) ∧ (¬ G → K ⟨setD s.t dst (.gd False .any), s.H⟩)
def stepDG (tb : TypeId → Option TI) (p : Nat) (V : Nat → Option Ent) (eff : Bool) (o : Oper) (s : St) (G : Prop) (K : St → Prop) : Prop :=
 anyG s.t (opnds o.op) (¬ G ∧ K ⟨setD s.t o.dst (.gd False .any), s.H⟩) (stepK tb p o (evA s.t) V (gdD V eff G (gpOs s.t (opnds o.op)) (ownId p o.dst) s o.dst K))
def opDG (tb : TypeId → Option TI) (P : Program) (p : Nat) (V : Nat → Option Ent) (eff : Bool) (o : Oper) (s : St) (G : Prop) (K : St → Prop) : Prop := match o.op with
 | .call c => match c.callee with
  | .value f => (G → gpOs s.t (opnds o.op) ∧ callK P (evA s.t f) (c.args.toList.map (evA s.t)) V (contD V eff (ownId p o.dst) s o.dst K)) ∧ (¬ G → K ⟨setD s.t o.dst (.gd False .any), s.H⟩)
  | _ => stepDG tb p V eff o s G K
 | .pick c a b => anyG s.t [c] (¬ G ∧ K ⟨setD s.t o.dst (.gd False .any), s.H⟩) (pickK s.t c a b fun Φ v => (G → Φ) ∧ K ⟨setD s.t o.dst (.gd G v), s.H⟩)
 | _ => stepDG tb p V eff o s G K
def opD (tb : TypeId → Option TI) (P : Program) (p : Nat) (all : List Oper) (V : Nat → Option Ent) (eff : Bool) (o : Oper) (s : St) (K : St → Prop) : Prop := match o.guard with
 | none => opDU tb P p V eff o s K
 | some (j, b) => guardK all s.t j b fun G => opDG tb P p V eff o s G K
section
variable {P : Program}
def ExP (P : Program) (ops : Array Oper) (o : Oper) (t : List AV) (V : Nat → Option Ent) (post : AV → Us → Prop) : Prop :=
 ∀ (w0 : World) (keep : Bs) (E : Env) (s : St) (a : Act) (w : World) (Q : Exit → Act → World → Prop), Rel w0 keep E s a w → (∀ k ∈ looksOf ops o, getA s.t k = getA t k) → (∀ (r : Nat) (e : Ent), V r = some e → s.H[r]? = some e) →
  (Region.wanted o (yielded ops a.tmps) = true ∧ o.wp P a w (fun a' w' => ∃ v us E', post v us ∧ Rel w0 keep E' ⟨setD s.t o.dst v, updH s.H us⟩ a' w') Q) ∨
  (Region.wanted o (yielded ops a.tmps) = false ∧ ∃ v us, post v us ∧ Rel w0 keep E ⟨setD s.t o.dst v, updH s.H us⟩ (a.put o.dst undef) w)
theorem ev_look {ops : Array Oper} {o : Oper} {s : St} {t : List AV} (h : ∀ k ∈ looksOf ops o, getA s.t k = getA t k) {x : Operand} (hx : x ∈ opnds o.op) : evA s.t x = evA t x ∧ (gpO s.t x ↔ gpO t x) := by
 cases x with
 | tmp i =>
  have := h i (List.mem_append_left _ (tmpsOf_mem hx))
  simp only [evA, gpO, this, and_self]
 | _ => exact ⟨rfl, Iff.rfl⟩
theorem ops_look {ops : Array Oper} {o : Oper} {s : St} {t : List AV} {w0 : World} {keep : Bs} {E : Env} {a : Act} {w : World} (hR : Rel w0 keep E s a w) (h : ∀ k ∈ looksOf ops o, getA s.t k = getA t k) (hg : gpOs t (opnds o.op)) :
    ∀ x ∈ opnds o.op, rep E w (evA t x) (a.eval x) := by
 intro x hx
 obtain ⟨h1, h2⟩ := ev_look h hx
 rw [← h1]
 exact hR.opnd (h2.2 (gpOs_mem hg x hx))
theorem wp_of_runs' {w0 : World} {keep : Bs} {o : Oper} {a : Act} {w w' : World} {cv : Value} {E E' : Env} {s : St} {v : AV} {us : Us} {post : AV → Us → Prop} {Q : Exit → Act → World → Prop} (hR : Rel w0 keep E s a w) (h : RunsTo P o a.eval w cv w') (hv : rep E' w' v cv) (ho : Out E E' w w' s.H us) (hp : post v us) :
    o.wp P a w (fun a' w' => ∃ v us E', post v us ∧ Rel w0 keep E' ⟨setD s.t o.dst v, updH s.H us⟩ a' w') Q :=
 wp_of_runs h ⟨v, us, E', hp, hR.put ho hv⟩
theorem call_ex {ops : Array Oper} {o : Oper} {c : Call} {f : Operand} (ho : o.op = .call c) (hc : c.callee = .value f) {t : List AV} {V : Nat → Option Ent} {K : AV → Us → Prop} (hgp : gpOs t (opnds o.op)) (h : callK P (evA t f) (c.args.toList.map (evA t)) V K) :
    ∃ post : AV → Us → Prop, (∀ v us, post v us → K v us) ∧ ∀ (w0 : World) (keep : Bs) (E : Env) (s : St) (a : Act) (w : World) (Q : Exit → Act → World → Prop), Rel w0 keep E s a w → (∀ k ∈ looksOf ops o, getA s.t k = getA t k) → (∀ (r : Nat) (e : Ent), V r = some e → s.H[r]? = some e) →
     o.wp P a w (fun a' w' => ∃ v us E', post v us ∧ Rel w0 keep E' ⟨setD s.t o.dst v, updH s.H us⟩ a' w') Q := by
 unfold callK at h
 obtain ⟨fn, caps, hf, post, hcall, hpost⟩ := h
 refine ⟨post, hpost, fun w0 keep E s a w Q hR hlook hV => ?_⟩
 have hops := ops_look hR hlook hgp
 rw [ho] at hops
 simp only [opnds, hc] at hops
 have hfv := hops f (by simp)
 rw [hf, rep] at hfv
 obtain ⟨cs, hfv, hcs⟩ := hfv
 have hargs : reps E w (c.args.toList.map (evA t)) (c.args.toList.map a.eval) := reps_map _ (fun x hx => hops x (by simp [hx]))
 exact wp_callW ho hc hfv (hcall E s.H w _ hR.hr hV (reps_append hargs hcs)) fun v w' ⟨x, us, E', hp, hv, hout⟩ => ⟨x, us, E', hp, hR.put hout hv⟩
theorem pick_look {ops : Array Oper} {o : Oper} {c x y : Operand} (ho : o.op = .pick c x y) {t : List AV} {K : Prop → AV → Prop} (h : pickK t c x y K) : ∃ Φ v, K Φ v ∧ (Φ → ∀ {w0 : World} {keep : Bs} {E : Env} {s : St} {act : Act} {w : World}, Rel w0 keep E s act w → (∀ k ∈ looksOf ops o, getA s.t k = getA t k) →
    ∃ q : Bool, act.eval c = .bool q ∧ rep E w v (if q then act.eval x else act.eval y)) := by
 have hm : ∀ {s : St}, (∀ k ∈ looksOf ops o, getA s.t k = getA t k) → ∀ z ∈ [c, x, y], evA s.t z = evA t z ∧ (gpO s.t z ↔ gpO t z) := fun {s} h z hz => ev_look h (by rw [ho]; exact hz)
 unfold pickK at h
 split at h
 rotate_left
 ·exact h.elim
 rename_i q hc
 have hcv : ∀ {w0 : World} {keep : Bs} {E : Env} {s : St} {act : Act} {w : World}, Rel w0 keep E s act w → (∀ k ∈ looksOf ops o, getA s.t k = getA t k) → gpO t c → act.eval c = .bool q := by
  intro w0 keep E s act w hR hl hg
  obtain ⟨h1, h2⟩ := hm hl c (by simp)
  have := hR.opnd (h2.2 hg)
  rw [h1, hc] at this
  exact rep_val this
 have hop : ∀ {w0 : World} {keep : Bs} {E : Env} {s : St} {act : Act} {w : World}, Rel w0 keep E s act w → (∀ k ∈ looksOf ops o, getA s.t k = getA t k) → ∀ z ∈ [c, x, y], gpO t z → rep E w (evA t z) (act.eval z) := by
  intro w0 keep E s act w hR hl z hz hg
  obtain ⟨h1, h2⟩ := hm hl z hz
  rw [← h1]; exact hR.opnd (h2.2 hg)
 split at h
 ·refine ⟨_, _, h, fun p w0 keep E s act w hR hl => ⟨q, hcv hR hl p.1, ?_⟩⟩
  rw [p.2.1]; exact hop hR hl x (by simp) p.2.2
 ·rename_i vy hb
  split at h
  ·rename_i vx ha
   refine ⟨_, _, h, fun p w0 keep E s act w hR hl => ⟨q, hcv hR hl p.1, ?_⟩⟩
   obtain ⟨p1, p2, p3⟩ := p
   have key : (if q then act.eval x else act.eval y) = .bool (if q then vx else vy) := by
    cases q with
    | true => have := hop hR hl x (by simp) (p2 rfl); rw [ha] at this; simpa using rep_val this
    | false => have := hop hR hl y (by simp) (p3 rfl); rw [hb] at this; simpa using rep_val this
   rw [key, rep]
   congr 1
   exact (pickB_eq ha hb).symm
  ·refine ⟨_, _, h, fun p w0 keep E s act w hR hl => ⟨q, hcv hR hl p.1, ?_⟩⟩
   rw [p.2.1]; exact hop hR hl y (by simp) p.2.2
  ·exact h.elim
 ·exact h.elim
theorem guard_look {ops : Array Oper} {o : Oper} {t : List AV} {j : Nat} {b : Bool} (ho : o.guard = some (j, b)) {K : Prop → Prop} (h : guardK ops.toList t j b K) : ∃ G, K G ∧ ∀ {w0 : World} {keep : Bs} {E : Env} {s : St} {a : Act} {w : World}, Rel w0 keep E s a w → (∀ k ∈ looksOf ops o, getA s.t k = getA t k) →
    (G → Region.wanted o (yielded ops a.tmps) = true) ∧ (¬ G → Region.wanted o (yielded ops a.tmps) = false) := by
 unfold guardK at h
 split at h
 ·exact h.elim
 rename_i oj hoj
 split at h
 ·exact h.elim
 rename_i d hd
 rw [getN_eq] at hoj
 have hbind : (ops[j]?).bind (·.dst) = some d := by
  have : ops[j]? = some oj := by simpa using hoj
  rw [this]; exact hd
 have hlk : d ∈ looksOf ops o := by
  unfold looksOf
  rw [ho]
  exact List.mem_append_right _ (by simp [hbind])
 split at h
 ·rename_i q hq
  refine ⟨_, h, fun {w0 keep E s a w} hR hl => ?_⟩
  have hv := hR.get d
  rw [hl d hlk, hq] at hv
  have hy := yielded_bool hbind (rep_val hv)
  exact ⟨fun hG => wanted_yes ho (by rw [hy, hG]), fun hG => wanted_no ho (by rw [hy]; simpa using hG)⟩
 ·rename_i φ x hq
  split at h
  ·rename_i q
   refine ⟨_, h, fun {w0 keep E s a w} hR hl => ?_⟩
   have hv := hR.get d
   rw [hl d hlk, hq, rep] at hv
   by_cases hφ : φ
   ·have hy := yielded_bool hbind (rep_val (hv.1 hφ))
    exact ⟨fun hG => wanted_yes ho (by rw [hy, hG.2]), fun hG => wanted_no ho (by rw [hy]; intro e; exact hG ⟨hφ, by simpa using e⟩)⟩
   ·have hy := yielded_undef hbind (hv.2 hφ)
    exact ⟨fun hG => absurd hG.1 hφ, fun hG => wanted_no ho (by rw [hy]; simp)⟩
  ·refine ⟨False, h.2, fun {w0 keep E s a w} hR hl => ?_⟩
   have hv := hR.get d
   rw [hl d hlk, hq, rep] at hv
   have hy := yielded_undef hbind (hv.2 h.1)
   exact ⟨fun hG => hG.elim, fun hG => wanted_no ho (by rw [hy]; simp)⟩
  ·exact h.elim
 ·exact h.elim
theorem opD_data {tb : TypeId → Option TI} (htb : TbOk P tb) {p : Nat} {ops : Array Oper} {V : Nat → Option Ent} {eff : Bool} {o : Oper} {s0 : St} {K : St → Prop} (h : opD tb P p ops.toList V eff o s0 K) :
    ∃ post : AV → Us → Prop, (∀ v us, post v us → okU V eff (ownId p o.dst) us ∧ K ⟨setD s0.t o.dst v, updH s0.H us⟩) ∧ ExP P ops o s0.t V post ∧ (isCall o = false → ∃ v us, post = fun v' us' => v' = v ∧ us' = us) := by
 have one : ∀ {v : AV} {us : Us}, okU V eff (ownId p o.dst) us → K ⟨setD s0.t o.dst v, updH s0.H us⟩ → ExP P ops o s0.t V (fun v' us' => v' = v ∧ us' = us) →
     ∃ post : AV → Us → Prop, (∀ v us, post v us → okU V eff (ownId p o.dst) us ∧ K ⟨setD s0.t o.dst v, updH s0.H us⟩) ∧ ExP P ops o s0.t V post ∧ (isCall o = false → ∃ v us, post = fun v' us' => v' = v ∧ us' = us) := by
  intro v us h1 h2 h3
  exact ⟨_, fun v' us' ⟨e1, e2⟩ => by subst e1; subst e2; exact ⟨h1, h2⟩, h3, fun _ => ⟨v, us, rfl⟩⟩
 unfold opD at h
 split at h
 ·rename_i hg
  have hwant : ∀ tm, Region.wanted o (yielded ops tm) = true := fun tm => by unfold Region.wanted; simp only [hg]
  have stp : stepD tb p V eff o s0 K → ∃ post : AV → Us → Prop, (∀ v us, post v us → okU V eff (ownId p o.dst) us ∧ K ⟨setD s0.t o.dst v, updH s0.H us⟩) ∧ ExP P ops o s0.t V post ∧ (isCall o = false → ∃ v us, post = fun v' us' => v' = v ∧ us' = us) := by
   rintro ⟨hgp, h⟩
   obtain ⟨Φ, v, us, ⟨hΦ, hok, hK⟩, hs⟩ := stepK_sound htb h
   refine one hok hK fun w0 keep E s a w Q hR hl hV => .inl ⟨hwant _, ?_⟩
   obtain ⟨cv, w', E', h1, h2, h3⟩ := hs hΦ E s.H w a.eval hR.hr hV (ops_look hR hl hgp)
   exact wp_of_runs' hR h1 h2 h3 ⟨rfl, rfl⟩
  unfold opDU at h
  split at h
  ·rename_i c hop
   split at h
   ·rename_i f hc
    obtain ⟨post, hpost, hex⟩ := call_ex (ops := ops) hop hc h.1 h.2
    refine ⟨post, hpost, fun w0 keep E s a w Q hR hl hV => .inl ⟨hwant _, hex w0 keep E s a w Q hR hl hV⟩, fun hcl => ?_⟩
    simp [isCall, hop, hc] at hcl
   ·exact stp h
  ·rename_i c x y hop
   obtain ⟨Φ, v, ⟨hΦ, hK⟩, hv⟩ := pick_look (ops := ops) hop h
   refine one (us := []) trivial hK fun w0 keep E s a w Q hR hl hV => .inl ⟨hwant _, ?_⟩
   obtain ⟨q, h1, h2⟩ := hv hΦ hR hl
   exact wp_of_runs' hR (.inl (run_pick hop h1 w)) h2 (Out.same hR.hr) ⟨rfl, rfl⟩
  ·exact stp h
 ·rename_i j b hg
  obtain ⟨G, h, hw⟩ := guard_look hg h
  have stp : stepDG tb p V eff o s0 G K → ∃ post : AV → Us → Prop, (∀ v us, post v us → okU V eff (ownId p o.dst) us ∧ K ⟨setD s0.t o.dst v, updH s0.H us⟩) ∧ ExP P ops o s0.t V post ∧ (isCall o = false → ∃ v us, post = fun v' us' => v' = v ∧ us' = us) := by
   intro h
   unfold stepDG at h
   rcases anyG_or h with ⟨hG, h⟩ | h
   ·exact one (us := []) trivial h fun w0 keep E s a w Q hR hl hV => .inr ⟨(hw hR hl).2 hG, _, _, ⟨rfl, rfl⟩, hR.put (Out.same hR.hr) (rep_gd_no (fun h => h))⟩
   obtain ⟨Φ, v, us, h, hs⟩ := stepK_sound htb h
   cases us with
   | nil =>
    obtain ⟨hΦ, _, hK⟩ := h
    refine one (us := []) trivial hK fun w0 keep E s a w Q hR hl hV => ?_
    obtain ⟨hw1, hw2⟩ := hw hR hl
    by_cases hG : G
    ·obtain ⟨hgp, hΦ⟩ := hΦ hG
     obtain ⟨cv, w', E', h1, h2, h3⟩ := hs hΦ E s.H w a.eval hR.hr hV (ops_look hR hl hgp)
     exact .inl ⟨hw1 hG, wp_of_runs' hR h1 (rep_gd_yes hG h2) h3 ⟨rfl, rfl⟩⟩
    ·exact .inr ⟨hw2 hG, _, _, ⟨rfl, rfl⟩, hR.put (Out.same hR.hr) (rep_gd_no hG)⟩
   | cons u us =>
    by_cases hG : G
    ·obtain ⟨⟨hgp, hΦ, hok⟩, hK⟩ := h.1 hG
     refine one hok hK fun w0 keep E s a w Q hR hl hV => .inl ⟨(hw hR hl).1 hG, ?_⟩
     obtain ⟨cv, w', E', h1, h2, h3⟩ := hs hΦ E s.H w a.eval hR.hr hV (ops_look hR hl hgp)
     exact wp_of_runs' hR h1 h2 h3 ⟨rfl, rfl⟩
    ·exact one (us := []) trivial (h.2 hG) fun w0 keep E s a w Q hR hl hV => .inr ⟨(hw hR hl).2 hG, _, _, ⟨rfl, rfl⟩, hR.put (Out.same hR.hr) (rep_gd_no (fun h => h))⟩
  unfold opDG at h
  split at h
  ·rename_i c hop
   split at h
   ·rename_i f hc
    by_cases hG : G
    ·obtain ⟨hgp, h⟩ := h.1 hG
     obtain ⟨post, hpost, hex⟩ := call_ex (ops := ops) hop hc hgp h
     refine ⟨post, hpost, fun w0 keep E s a w Q hR hl hV => .inl ⟨(hw hR hl).1 hG, hex w0 keep E s a w Q hR hl hV⟩, fun hcl => ?_⟩
     simp [isCall, hop, hc] at hcl
    ·exact one (us := []) trivial (h.2 hG) fun w0 keep E s a w Q hR hl hV => .inr ⟨(hw hR hl).2 hG, _, _, ⟨rfl, rfl⟩, hR.put (Out.same hR.hr) (rep_gd_no (fun h => h))⟩
   ·exact stp h
  ·rename_i c x y hop
   rcases anyG_or h with ⟨hG, h⟩ | h
   ·exact one (us := []) trivial h fun w0 keep E s a w Q hR hl hV => .inr ⟨(hw hR hl).2 hG, _, _, ⟨rfl, rfl⟩, hR.put (Out.same hR.hr) (rep_gd_no (fun h => h))⟩
   obtain ⟨Φ, v, ⟨hΦ, hK⟩, hv⟩ := pick_look (ops := ops) hop h
   refine one (us := []) trivial hK fun w0 keep E s a w Q hR hl hV => ?_
   obtain ⟨hw1, hw2⟩ := hw hR hl
   by_cases hG : G
   ·obtain ⟨q, h1, h2⟩ := hv (hΦ hG) hR hl
    exact .inl ⟨hw1 hG, wp_of_runs' hR (.inl (run_pick hop h1 w)) (rep_gd_yes hG h2) (Out.same hR.hr) ⟨rfl, rfl⟩⟩
   ·exact .inr ⟨hw2 hG, _, _, ⟨rfl, rfl⟩, hR.put (Out.same hR.hr) (rep_gd_no hG)⟩
  ·exact stp h
end
end Go.Proofs.YtmjpbmcbcppkfaaGreatDoor
