/- Abstract values: append, make, literals, as operations. Conditions: what 'TIok' says of the types. -/
import Derived.Test.YtjfenbkhgamidaaAv8
namespace Go.Proofs.Ytjfenbkhgamidaa
open Go.RowKit
set_option linter.unusedVariables false
def intF (k : IntKind) : Int → List AV := fun n => [.val (.int k n)]
section
variable {P : Program} {o : Oper} {ev : Operand → AV} {hg : Nat → Option Ent}
theorem bcells_get {l : List UInt8} {i : Nat} {ys : List AV} : (bcells l)[i]? = some ys ↔ ∃ b, l[i]? = some b ∧ ys = [.val (bv b)] := by
  simp only [bcells, List.getElem?_map, Option.map_eq_some_iff]
  constructor
  · rintro ⟨b, h1, h2⟩; exact ⟨b, h1, h2.symm⟩
  · rintro ⟨b, h1, h2⟩; exact ⟨b, h1, h2.symm⟩
/-! append -/
def appK (tb : TypeId → Option TI) (hg : Nat → Option Ent) (p : Nat) (o : Oper) (T Tx : TypeId) (s x : AV) (K : KF) : Prop := match tb T with
  | none => False
  | some ti => match ti.u with
    | .slice El => match tb El with
      | none => False
      | some ei => match s with
        | .own r ver sz off n => match hg r with
          | none => False
          | some e => match e.bd with
            | .bytes l => elsK tb hg Tx x fun Ψ s2 els => ∃ m, K (ver = e.ver ∧ Ψ ∧ sz = 1 ∧ ei.sz = 1 ∧ off = 0 ∧ n = l.length ∧ s2 = 1 ∧ els = bcells m ∧ (l.length + m.length) * ei.bytes ≤ 140737488355328 ∧ 0 < ei.bytes) (.own r (e.ver + 1) 1 0 (l.length + m.length)) [(r, ⟨e.ver + 1, .bytes (l ++ m)⟩)]
            | .row sz' f d l => elsK tb hg Tx x fun Ψ s2 els => ∃ m, K (ver = e.ver ∧ Ψ ∧ sz = sz' ∧ ei.sz = sz' ∧ off = 0 ∧ n = l.length ∧ (els = [] ∨ s2 = sz') ∧ els = m.map f ∧ (l.length + m.length) * ei.bytes ≤ 140737488355328 ∧ 0 < ei.bytes) (.own r (e.ver + 1) sz' 0 (l.length + m.length)) [(r, ⟨e.ver + 1, .row sz' f d (l ++ m)⟩)]
            | _ => False
        | _ => False
    | _ => False
theorem mul_bound {a b : Nat} (h : a * b ≤ 140737488355328) (hb : 0 < b) : a ≤ maxLen := by
  have : a * 1 ≤ a * b := Nat.mul_le_mul_left _ hb
  unfold maxLen; omega
theorem app_sound {tb : TypeId → Option TI} (htb : TbOk P tb) {p : Nat} {T Tx : TypeId} {s x : Operand} (ho : o.op = .call { callee := .builtin .append, args := #[s, x], argTypes := #[T, Tx] })
 {K : KF} (h : appK tb hg p o T Tx (ev s) (ev x) K) : ∃ Φ v us, K Φ v us ∧ Snd P o ev hg Φ v us := by
  unfold appK at h
  split at h
  · exact h.elim
  rename_i ti hti
  have hT := (htb T ti hti).u
  split at h
  rotate_left
  · exact h.elim
  rename_i El hu
  rw [hu] at hT
  have hT' : P.underlying T = some (.slice El) := hT
  split at h
  · exact h.elim
  rename_i ei hei
  have hE := htb El ei hei
  split at h
  rotate_left
  · exact h.elim
  rename_i r ver sz off n hs
  split at h
  · exact h.elim
  rename_i e he
  have hops2 : ∀ {E : Env} {w : World} {ρv : Operand → Value}, (∀ x ∈ opnds o.op, rep E w (ev x) (ρv x)) → rep E w (ev s) (ρv s) ∧ rep E w (ev x) (ρv x) := by
    intro E w ρv hops
    rw [ho] at hops
    exact ⟨hops s (by simp [opnds]), hops x (by simp [opnds])⟩
  have hex : ∀ {w w' : World} {ρv : Operand → Value} {v : Value}, (Builtin.append_ #[T, Tx] o.type #[ρv s, ρv x]).run P w = .ok v w' → (execOp ρv o).run P w = .ok (.value v) w' := by
    intro w w' ρv v hr
    unfold execOp
    simp only [ho, resolve, invoke, builtin, Sem.run_bind, Sem.run_pure, Result.andThen_ok, List.map_toArray, List.map_cons, List.map_nil, hr]
  split at h
  · rename_i l hb
    obtain ⟨Ψ, s2, els, h, hels⟩ := els_sound htb h
    obtain ⟨m, h⟩ := h
    refine ⟨_, _, _, h, fun q E H w ρv hr hh hops => ?_⟩
    obtain ⟨q1, q2, q3, q4, q5, q6, q7, q8, q9, hbp⟩ := q
    obtain ⟨hv, hx⟩ := hops2 hops
    rw [hs, q3, q5] at hv
    have hH := hh r e he
    obtain ⟨news, hsrc, hat⟩ := hels q2 E H w _ hr hh hx 1 (.inr q7.symm)
    have hlen : els.length = m.length := by rw [q8]; simp [bcells]
    rw [hlen] at hsrc
    obtain ⟨cv, w', E', h1, h2, h3⟩ := app_core (ty := o.type) (bd' := .bytes (l ++ m)) hT' hE hr hH hv (q1.trans (hr.ver r e hH).symm) hsrc (by rw [hb, q6]; rfl) (by rw [hb]; rfl) q4 (by rw [hb]; rfl) (by rw [q6]; simp [Bd.count]) rfl rfl (fun i ys hy => by
        simp only [Bd.at, List.getElem?_append, Option.map_eq_some_iff] at hy
        obtain ⟨b, hb1, rfl⟩ := hy
        split at hb1
        · rename_i hlt
          exact .inl ⟨by omega, by rw [hb]; simp [Bd.at, hb1]⟩
        · rename_i hlt
          refine .inr ⟨by omega, ?_⟩
          obtain ⟨us, k1, k2, k3⟩ := hat (i - l.length) [.val (bv b)] (by rw [q8]; exact bcells_get.2 ⟨b, hb1, rfl⟩)
          exact ⟨us, k1, k2, fun j u hu => by rw [q6]; exact k3 j u hu⟩) (fun i hi => by rw [hb]; simp only [Bd.at]; rw [List.getElem?_eq_getElem (by omega)]; exact ⟨_, rfl⟩) (by rw [q6]; exact q9) (by rw [q6]; exact mul_bound q9 hbp)
    refine ⟨cv, w', E', .inl (hex h1), ?_, h3⟩
    rw [q6] at h2; exact h2
  · rename_i sz' α f d l hb
    obtain ⟨Ψ, s2, els, h, hels⟩ := els_sound htb h
    obtain ⟨m, h⟩ := h
    refine ⟨_, _, _, h, fun q E H w ρv hr hh hops => ?_⟩
    obtain ⟨q1, q2, q3, q4, q5, q6, q7, q8, q9, hbp⟩ := q
    obtain ⟨hv, hx⟩ := hops2 hops
    rw [hs, q3, q5] at hv
    have hH := hh r e he
    obtain ⟨news, hsrc, hat⟩ := hels q2 E H w _ hr hh hx sz' (q7.imp id Eq.symm)
    have hlen : els.length = m.length := by rw [q8]; simp
    rw [hlen] at hsrc
    obtain ⟨cv, w', E', h1, h2, h3⟩ := app_core (ty := o.type) (bd' := .row sz' f d (l ++ m)) hT' hE hr hH hv (q1.trans (hr.ver r e hH).symm) hsrc (by rw [hb, q6]; rfl) (by rw [hb]; rfl) q4 (by rw [hb]; rfl) (by rw [q6]; simp [Bd.count]) rfl rfl (fun i ys hy => by
        simp only [Bd.at, List.getElem?_append, Option.map_eq_some_iff] at hy
        obtain ⟨b, hb1, rfl⟩ := hy
        split at hb1
        · rename_i hlt
          exact .inl ⟨by omega, by rw [hb]; simp [Bd.at, hb1]⟩
        · rename_i hlt
          refine .inr ⟨by omega, ?_⟩
          obtain ⟨us, k1, k2, k3⟩ := hat (i - l.length) (f b) (by rw [q8]; simp [hb1])
          exact ⟨us, k1, k2, fun j u hu => by rw [q6]; exact k3 j u hu⟩) (fun i hi => by rw [hb]; simp only [Bd.at]; rw [List.getElem?_eq_getElem (by omega)]; exact ⟨_, rfl⟩) (by rw [q6]; exact q9) (by rw [q6]; exact mul_bound q9 hbp)
    refine ⟨cv, w', E', .inl (hex h1), ?_, h3⟩
    rw [q6] at h2; exact h2
  · exact h.elim
/-! literals -/
theorem fold_put {off : Nat} : ∀ (vs : List Value) (k : Nat) (cells : Array Value), off + k + vs.length ≤ cells.size →
    ((vs.zipIdx k).foldl (fun cs (c, j) => cs.setIfInBounds (off + j) c) cells).toList = cells.toList.take (off + k) ++ vs ++ cells.toList.drop (off + k + vs.length)
  | [], k, cells, h => by simp
  | v :: vs, k, cells, h => by
    simp only [List.length_cons] at h
    simp only [List.zipIdx_cons, List.foldl_cons]
    rw [fold_put vs (k + 1) _ (by simp; omega)]
    apply List.ext_getElem?
    intro i
    have hs : cells.toList.length = cells.size := by simp
    simp only [Array.toList_setIfInBounds, List.getElem?_append, List.length_append, List.length_take, List.length_set, List.getElem?_take, List.getElem?_drop, List.getElem?_set, List.length_cons, Array.length_toList]
    by_cases hi : i < off + k
    · have a1 : i < min (off + (k + 1)) cells.size := by omega
      have a2 : i < min (off + k) cells.size := by omega
      have a3 : i < min (off + (k + 1)) cells.size + vs.length := by omega
      have a4 : i < min (off + k) cells.size + (vs.length + 1) := by omega
      have a5 : off + k ≠ i := by omega
      have a6 : i < off + (k + 1) := by omega
      simp [a1, a2, a3, a4, a5, a6, hi]
    · by_cases hio : i = off + k
      · subst hio
        have a1 : off + k < min (off + (k + 1)) cells.size := by omega
        have a3 : off + k < min (off + (k + 1)) cells.size + vs.length := by omega
        have a2 : ¬ off + k < min (off + k) cells.size := by omega
        have a4 : off + k < min (off + k) cells.size + (vs.length + 1) := by omega
        have a5 : off + k < cells.size := by omega
        have a6 : off + k - min (off + k) cells.size = 0 := by omega
        have a7 : off + k < off + (k + 1) := by omega
        simp [a1, a2, a3, a4, a5, a6, a7]
      · have e1 : min (off + (k + 1)) cells.size = off + k + 1 := by omega
        have e2 : min (off + k) cells.size = off + k := by omega
        rw [e1, e2]
        by_cases hin : i < off + k + 1 + vs.length
        · have a1 : ¬ i < off + k + 1 := by omega
          have a2 : ¬ i < off + k := by omega
          have a4 : i < off + k + (vs.length + 1) := by omega
          have a5 : i - (off + k) = (i - (off + k + 1)) + 1 := by omega
          simp only [hin, a1, a2, a4, if_true, if_false, a5, List.getElem?_cons_succ]
        · have a4 : ¬ i < off + k + (vs.length + 1) := by omega
          have a5 : ¬ off + k = off + (k + 1) + vs.length + (i - (off + k + 1 + vs.length)) := by omega
          simp only [hin, a4, if_false, a5]
          congr 1; omega
/-- the parts of a literal laid into its cells -/
def fillA (hg : Nat → Option Ent) (place : Nat → Option (Nat × Nat)) : List (Nat × AV) → List AV → (Prop → List AV → Prop) → Prop
  | [], zs, K => K True zs
  | (k, x) :: rest, zs, K => match place k with
    | none => False
    | some (off, sz) => fillA hg place rest (putA zs off (flatA x)) fun Φ l => K ((flatA x).length = sz ∧ onesA hg (flatA x) ∧ off + sz ≤ zs.length ∧ Φ) l
theorem putA_length {zs new : List AV} {off : Nat} (h : off + new.length ≤ zs.length) : (putA zs off new).length = zs.length := by
  unfold putA
  rw [takeL_eq, dropL_eq]
  simp only [List.length_append, List.length_take, List.length_drop]; omega
theorem fillA_sound {place : Nat → Option (Nat × Nat)} : ∀ {parts : List (Nat × Operand)} {zs : List AV} {K : Prop → List AV → Prop}, fillA hg place (parts.map fun p => (p.1, ev p.2)) zs K →
    ∃ Φ l, K Φ l ∧ (Φ → ∀ (E : Env) (H : List Ent) (w : World) (ρv : Operand → Value) (cells : Array Value), HR E w H → (∀ (r : Nat) (e : Ent), hg r = some e → H[r]? = some e) → (∀ x ∈ parts.map (·.2), rep E w (ev x) (ρv x)) → reps E w zs cells.toList →
      ∃ cells', Instr.fill place cells (parts.map fun p => (p.1, ρv p.2)) = some cells' ∧ reps E w l cells'.toList)
  | [], zs, K, h => ⟨_, _, h, fun _ E H w ρv cells _ _ _ hz => ⟨cells, rfl, hz⟩⟩
  | (k, x) :: rest, zs, K, h => by
    simp only [List.map_cons, fillA] at h
    split at h
    · exact h.elim
    rename_i off sz hp
    obtain ⟨Φ, l, h, hl⟩ := fillA_sound h
    refine ⟨_, l, h, fun p E H w ρv cells hr hh hops hz => ?_⟩
    obtain ⟨p1, p2, p3, p4⟩ := p
    obtain ⟨f1, f2⟩ := flat_rep p2 hr hh (hops x (by simp))
    have fl := (reps_get f1).1
    have zl := (reps_get hz).1
    simp only [Array.length_toList] at fl zl
    have hput := reps_put off hz f1
    have hfold := fold_put (off := off) (ρv x).cells.toList 0 cells (by simp; omega)
    have e : (ρv x).cells.zipIdx.foldl (fun cs (c, j) => cs.setIfInBounds (off + j) c) cells = ((ρv x).cells.toList.zipIdx 0).foldl (fun cs (c, j) => cs.setIfInBounds (off + j) c) cells := by
      rw [← Array.foldl_toList, Array.toList_zipIdx]
    obtain ⟨cells', h5, h6⟩ := hl p4 E H w ρv (((ρv x).cells.toList.zipIdx 0).foldl (fun cs (c, j) => cs.setIfInBounds (off + j) c) cells) hr hh (fun y hy => hops y (by simp only [List.map_cons, List.mem_cons]; exact .inr hy)) (by
      rw [hfold, Nat.add_zero, List.append_assoc]; exact hput)
    refine ⟨cells', ?_, h6⟩
    simp only [List.map_cons, Instr.fill, hp]
    rw [if_neg (by simp; omega), e]
    exact h5
def sizesOf (tb : TypeId → Option TI) : List (Nat × TypeId) → Option (List (Nat × Nat))
  | [] => some []
  | (off, ft) :: fs => match tb ft with
    | none => none
    | some fi => match sizesOf tb fs with
      | none => none
      | some l => some ((off, fi.sz) :: l)
def getN {α : Type} : List α → Nat → Option α
  | [], _ => none
  | x :: _, 0 => some x
  | _ :: l, n + 1 => getN l n
theorem getN_eq {α : Type} : ∀ (l : List α) (i : Nat), getN l i = l[i]?
  | [], _ => rfl
  | _ :: _, 0 => rfl
  | _ :: l, i + 1 => by simpa [getN] using getN_eq l i
theorem sizesOf_sound {tb : TypeId → Option TI} (htb : TbOk P tb) : ∀ {flds : List Field} {l : List (Nat × Nat)}, sizesOf tb (flds.map fun f => (f.offset, f.type)) = some l → flds.mapM (fun f => (P.info? f.type).map fun i => (f.offset, i.size)) = some l
  | [], l, h => by simp [sizesOf] at h; subst h; rfl
  | f :: flds, l, h => by
    simp only [List.map_cons, sizesOf] at h
    split at h
    · cases h
    rename_i fi hfi
    split at h
    · cases h
    rename_i l' hl'
    cases h
    obtain ⟨z, hz, _⟩ := (htb _ _ hfi).info
    obtain ⟨i, hi, h1, h2, h3⟩ := info_parts hz
    simp [List.mapM_cons, hi, h2, sizesOf_sound htb hl']
def buildK (tb : TypeId → Option TI) (hg : Nat → Option Ent) (T : TypeId) (parts : List (Nat × AV)) (K : KF) : Prop := match tb T with
  | none => False
  | some ti => match ti.u with
    | .struct fs => match sizesOf tb fs with
      | none => False
      | some pl => fillA hg (getN pl) parts (ti.zero.map .val) fun Φ l => K Φ (.agg l) []
    | .array _ El => match tb El with
      | none => False
      | some ei => fillA hg (fun i => some (i * ei.sz, ei.sz)) parts (ti.zero.map .val) fun Φ l => K Φ (.agg l) []
    | _ => False
theorem build_sound {tb : TypeId → Option TI} (htb : TbOk P tb) {T : TypeId} {parts : Array (Nat × Operand)} (ho : o.op = .build T parts) {K : KF} (h : buildK tb hg T (parts.toList.map fun p => (p.1, ev p.2)) K) : ∃ Φ v us, K Φ v us ∧ Snd P o ev hg Φ v us := by
  unfold buildK at h
  split at h
  · exact h.elim
  rename_i ti hti
  have ht := htb T ti hti
  obtain ⟨z, hz, hzc⟩ := ht.info
  obtain ⟨i, hi, h1, h2, h3⟩ := info_parts hz
  have hT := ht.u
  have fin : ∀ {place : Nat → Option (Nat × Nat)}, (fillA hg place (parts.toList.map fun p => (p.1, ev p.2)) (ti.zero.map .val) fun Φ l => K Φ (.agg l) []) →
      (∀ (w : World) (ps : Array (Nat × Value)) (cells : Array Value), Instr.fill place z.cells ps.toList = some cells → (Instr.build T ps).run P w = .ok (.agg cells) w) → ∃ Φ v us, K Φ v us ∧ Snd P o ev hg Φ v us := by
    intro place h hrun
    obtain ⟨Φ, l, h, hl⟩ := fillA_sound h
    refine ⟨_, _, _, h, Snd.pure fun p E H w ρv hr hh hops => ?_⟩
    obtain ⟨cells', h5, h6⟩ := hl p E H w ρv z.cells hr hh (by rw [ho] at hops; exact hops) (by rw [hzc]; exact reps_vals _)
    refine ⟨.agg cells', ?_, by rw [rep]; exact ⟨cells'.toList, by simp, h6⟩⟩
    have h7 := hrun w (parts.map fun (i, x) => (i, ρv x)) cells' (by rw [← h5]; congr 1; simp)
    unfold execOp
    simp only [ho, Sem.run_bind, h7, Result.andThen_ok, Sem.run_pure]
  split at h
  · rename_i fs hu
    rw [hu] at hT
    obtain ⟨flds, hf1, hf2⟩ := hT
    split at h
    · exact h.elim
    rename_i pl hpl
    rw [← hf2] at hpl
    have hpl := sizesOf_sound htb hpl
    refine fin h fun w ps cells hfill => run_build w T ps cells ?_
    unfold Program.built
    simp only [hi, hf1, h1, hpl]
    have e : (fun x => pl.toArray[x]?) = getN pl := funext fun x => by rw [getN_eq]; simp
    rw [e]; exact hfill
  · rename_i n El hu
    rw [hu] at hT
    have hT' : P.underlying T = some (.array n El) := hT
    split at h
    · exact h.elim
    rename_i ei hei
    obtain ⟨z2, hz2, _⟩ := (htb El ei hei).info
    obtain ⟨i2, hi2, h4, h5, h6⟩ := info_parts hz2
    refine fin h fun w ps cells hfill => run_build w T ps cells ?_
    unfold Program.built
    simp only [hi, hT', h1, hi2, h5]
    exact hfill
  · exact h.elim
end
end Go.Proofs.Ytjfenbkhgamidaa
