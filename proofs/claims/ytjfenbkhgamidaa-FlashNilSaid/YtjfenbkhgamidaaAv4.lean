/- Abstract values: each operation that reads or writes memory: what it makes of them, and that this is so. Conditions: what 'TIok' says of the types. -/
import Derived.Test.YtjfenbkhgamidaaAv3
namespace Go.Proofs.Ytjfenbkhgamidaa
set_option linter.unusedVariables false
def opnds : Op → List Operand
  | .move x | .assign x | .box _ x | .load _ x | .nilCheck x | .unOp _ _ x | .convert _ _ x | .sliceToArrayPointer _ x | .fieldAddr _ x _ | .field _ x _ | .extract x _ => [x]
  | .pick c a b => [c, a, b]
  | .build _ ps | .buildSlice _ _ ps => ps.toList.map (·.2)
  | .store _ a v | .binOp _ _ a v _ | .makeSlice _ a v | .indexAddr _ a v | .index _ a v => [a, v]
  | .makeFunc _ first captured => captured.toList
  | .slice _ x l h m => x :: (l.toList ++ (h.toList ++ m.toList))
  | .call c => (match c.callee with | .value f => [f] | _ => []) ++ c.args.toList
  | _ => []
def RunsTo (P : Program) (o : Oper) (ρv : Operand → Value) (w : World) (cv : Value) (w' : World) : Prop :=
  (execOp ρv o).run P w = .ok (.value cv) w' ∨ ((execOp ρv o).run P w = .ok .skip w' ∧ cv = undef)
def Snd (P : Program) (o : Oper) (ev : Operand → AV) (hg : Nat → Option Ent) (Φ : Prop) (v : AV) (us : List (Nat × Ent)) : Prop :=
  Φ → ∀ (E : Env) (H : List Ent) (w : World) (ρv : Operand → Value), HR E w H → (∀ (r : Nat) (e : Ent), hg r = some e → H[r]? = some e) → (∀ x ∈ opnds o.op, rep E w (ev x) (ρv x)) →
    ∃ cv w' E', RunsTo P o ρv w cv w' ∧ rep E' w' v cv ∧ Out E E' w w' H us
section
variable {P : Program} {o : Oper} {ev : Operand → AV} {hg : Nat → Option Ent}
theorem Snd.pure {Φ : Prop} {v : AV} (h : Φ → ∀ (E : Env) (H : List Ent) (w : World) (ρv : Operand → Value), HR E w H → (∀ (r : Nat) (e : Ent), hg r = some e → H[r]? = some e) → (∀ x ∈ opnds o.op, rep E w (ev x) (ρv x)) →
    ∃ cv, (execOp ρv o).run P w = .ok (.value cv) w ∧ rep E w v cv) : Snd P o ev hg Φ v [] :=
  fun p E H w ρv hr hh hx => let ⟨cv, h1, h2⟩ := h p E H w ρv hr hh hx; ⟨cv, w, E, .inl h1, h2, Out.same hr⟩

theorem rep_val {E : Env} {w : World} {u v : Value} (h : rep E w (.val u) v) : v = u := by rwa [rep] at h
theorem HR.cells {E : Env} {w : World} {H : List Ent} (hr : HR E w H) {r : Nat} {e : Ent} (h : H[r]? = some e) {i : Nat} {ys : List AV} (hy : e.bd.at i = some ys) :
    ∃ cs, cs.length = e.bd.sz ∧ reps E w ys cs ∧ ∀ j u, cs[j]? = some u → w.cell? ⟨E.ρ r, i * e.bd.sz + j, none⟩ = some u := by
  have hl : e.bd.live = true := by cases hb : e.bd <;> simp [Bd.live] <;> simp [hb, Bd.at] at hy
  have hna : ¬ E.abs r := fun q => by have := hr.abs r e h q; have := Bd.at_lt hy; omega
  obtain ⟨cur, T, lo, hi, h1, h2, h3, h4⟩ := (hr.ent r e h ⟨hl, hna⟩).blk hl
  obtain ⟨cs, h5, h6, h7⟩ := h4 i ys hy
  exact ⟨cs, h5, h6, fun j u hu => by rw [cell_of_row w _ _ cur T (lo, hi) h1]; exact h7 j u hu⟩

/-! what a variable of a type holds, out of its cells -/
def cvK (ti : TI) (cs : List AV) (K : Prop → AV → Prop) : Prop :=
  match ti.u with
  | .other => False
  | .struct _ => K (ti.sz ≤ cs.length) (.agg (takeL cs ti.sz))
  | .array _ _ => K (ti.sz ≤ cs.length) (.agg (takeL cs ti.sz))
  | _ => match cs with
    | x :: _ => K True x
    | [] => False
theorem TIok.sizeOf {T : TypeId} {ti : TI} (h : TIok P T ti) (w : World) : (sizeOf T).run P w = .ok ti.sz w := by
  obtain ⟨z, hz, _⟩ := h.info
  obtain ⟨i, hi, h1, h2, h3⟩ := info_parts hz
  simp [Go.sizeOf, typeInfo, hi, h2]
theorem TIok.aggTy {T : TypeId} {ti : TI} (h : TIok P T ti) (hu : ti.u.isAgg = true) : AggTy P T ti.sz := by
  obtain ⟨z, hz, _⟩ := h.info
  obtain ⟨i, hi, h1, h2, h3⟩ := info_parts hz
  have hk := h.u
  refine ⟨?_, by rw [hi]; simp [h2]⟩
  cases hq : ti.u <;> simp [hq, UK.isAgg] at hu <;> rw [hq] at hk <;> simp only [UK.ok] at hk
  · rw [hk]
  · obtain ⟨f, hf, _⟩ := hk; rw [hf]
theorem TIok.notAgg {T : TypeId} {ti : TI} (h : TIok P T ti) (hu : ti.u.isAgg = false) (ho : ti.u ≠ .other) (w : World) : (isAgg T).run P w = .ok false w := by
  have hk := h.u
  unfold Go.isAgg
  cases hq : ti.u <;> rw [hq] at hk hu ho <;> simp only [UK.ok] at hk <;> simp [UK.isAgg] at hu ho
  case func => obtain ⟨a, b, c, hk⟩ := hk; rw [Sem.run_bind, run_underlying hk w]; rfl
  all_goals (rw [Sem.run_bind, run_underlying hk w]; rfl)
theorem reps_drop {E : Env} {w : World} : ∀ (n : Nat) {xs : List AV} {vs : List Value}, reps E w xs vs → reps E w (xs.drop n) (vs.drop n)
  | 0, _, _, h => h
  | n + 1, [], vs, h => by rw [reps] at h; subst h; simp [reps]
  | n + 1, x :: xs, vs, h => by
    rw [reps] at h
    obtain ⟨v, vs', rfl, h1, h2⟩ := h
    simpa using reps_drop n h2
theorem reps_take {E : Env} {w : World} : ∀ (n : Nat) {xs : List AV} {vs : List Value}, reps E w xs vs → reps E w (xs.take n) (vs.take n)
  | 0, _, _, h => by simp [reps]
  | n + 1, [], vs, h => by rw [reps] at h; subst h; simp [reps]
  | n + 1, x :: xs, vs, h => by
    rw [reps] at h
    obtain ⟨v, vs', rfl, h1, h2⟩ := h
    simp only [List.take_succ_cons]
    rw [reps]
    exact ⟨v, _, rfl, h1, reps_take n h2⟩
theorem cv_load {T : TypeId} {ti : TI} {cells : List AV} {j : Nat} {K : Prop → AV → Prop} (ht : TIok P T ti) (h : cvK ti (dropL cells j) K) :
    ∃ Φ v, K Φ v ∧ (Φ → ∀ (E : Env) (w : World) (cs : List Value), reps E w cells cs → ∃ cv, rep E w v cv ∧ (part T cs.toArray j).run P w = .ok cv w ∧
      ∀ (b o : Nat), (∀ j u, cs[j]? = some u → w.cell? ⟨b, o + j, none⟩ = some u) → (loadVar T ⟨b, o + j, none⟩).run P w = .ok cv w) := by
  rw [dropL_eq] at h
  have key : (∃ Φ v, K Φ v ∧ (Φ → ti.u.isAgg = true ∧ ti.sz ≤ (cells.drop j).length ∧ v = .agg (takeL (cells.drop j) ti.sz) ∨ ti.u.isAgg = false ∧ ti.u ≠ .other ∧ (cells.drop j).head? = some v)) := by
    unfold cvK at h
    split at h
    · exact h.elim
    · rename_i hu; exact ⟨_, _, h, fun p => .inl ⟨by rw [hu]; rfl, p, rfl⟩⟩
    · rename_i hu; exact ⟨_, _, h, fun p => .inl ⟨by rw [hu]; rfl, p, rfl⟩⟩
    · rename_i h1 h2 h3
      split at h
      · rename_i x xs hx
        refine ⟨_, _, h, fun _ => .inr ⟨?_, h1, by rw [hx]; rfl⟩⟩
        cases hq : ti.u <;> simp_all [UK.isAgg]
      · exact h.elim
  obtain ⟨Φ, v, hK, hv⟩ := key
  refine ⟨Φ, v, hK, fun p E w cs hc => ?_⟩
  rcases hv p with ⟨h1, h2, rfl⟩ | ⟨h1, h2, h3⟩
  · have A := ht.aggTy h1
    have hd := reps_take ti.sz (reps_drop j hc)
    have hlen := (reps_get (reps_drop j hc)).1
    have hl : ((cs.drop j).take ti.sz).length = ti.sz := by rw [List.length_take]; omega
    rw [takeL_eq]
    refine ⟨.agg ((cs.drop j).take ti.sz).toArray, by rw [rep]; exact ⟨_, rfl, hd⟩, ?_, fun b o hcell => run_loadVar_at A hl (fun k u hu => ?_)⟩
    rotate_left
    · rw [Addr.add_lit]
      rw [List.getElem?_take] at hu
      split at hu
      · rw [List.getElem?_drop] at hu
        rw [Nat.add_assoc]
        exact hcell _ u hu
      · cases hu
    · unfold part
      have e : cs.toArray.extract j (j + ti.sz) = ((cs.drop j).take ti.sz).toArray := by
        apply Array.ext'; simp
      simp only [Sem.run_bind, A.isAgg, A.sizeOf, Result.andThen_ok, if_true, Sem.run_pure, e]
  · obtain ⟨u, hu, hr⟩ := (reps_get (reps_drop j hc)).2 0 v (by rw [← List.head?_eq_getElem?]; exact h3)
    rw [List.getElem?_drop, Nat.add_zero] at hu
    refine ⟨u, hr, ?_, fun b o hcell => ?_⟩
    · unfold part
      simp [Sem.run_bind, ht.notAgg h1 h2, hu]
    · unfold loadVar
      simp [Sem.run_bind, ht.notAgg h1 h2, hcell j u hu]

/-! load -/
def bdK (bd : Bd) (sz i : Nat) (K : Prop → List AV → Prop) : Prop := match bd with
  | .dead => False
  | .bytes l => K (sz = 1 ∧ i < l.length) [.val (.int .u8 (l.getD i 0).toNat)]
  | .row sz' f d l => K (sz = sz' ∧ i < l.length) (f (l.getD i d))
  | .obj l => K (i = 0) l
theorem bdK_sound {bd : Bd} {sz i : Nat} {K : Prop → List AV → Prop} (h : bdK bd sz i K) : ∃ Φ ys, K Φ ys ∧ (Φ → bd.at i = some ys ∧ i * sz = i * bd.sz) := by
  cases bd <;> simp only [bdK] at h
  · refine ⟨_, _, h, fun p => ⟨?_, by rw [p.1]; rfl⟩⟩
    simp [Bd.at, p.2, bv, List.getD]
  · refine ⟨_, _, h, fun p => ⟨?_, by rw [p.1]; rfl⟩⟩
    simp [Bd.at, p.2, List.getD]
  · exact ⟨_, _, h, fun p => ⟨by simp [Bd.at, p], by simp [p]⟩⟩
def loadK (tb : TypeId → Option TI) (hg : Nat → Option Ent) (T : TypeId) (x : AV) (K : KF) : Prop :=
  match tb T with
  | none => False
  | some ti => match x with
    | .ref r ver sz i j => match hg r with
      | none => False
      | some e => bdK e.bd sz i fun Φ cells => cvK ti (dropL cells j) fun Ψ v => K (ver = e.ver ∧ Φ ∧ Ψ) v []
    | .cp _ cells j => cvK ti (dropL cells j) fun Ψ v => K Ψ v []
    | _ => False
theorem load_sound {tb : TypeId → Option TI} (htb : TbOk P tb) {T : TypeId} {x : Operand} (ho : o.op = .load T x) {K : KF} (h : loadK tb hg T (ev x) K) : ∃ Φ v us, K Φ v us ∧ Snd P o ev hg Φ v us := by
  unfold loadK at h
  split at h
  · exact h.elim
  rename_i ti hti
  have ht := htb T ti hti
  split at h
  · rename_i r ver sz i j hx
    split at h
    · exact h.elim
    rename_i e he
    obtain ⟨Φ, ys, h, hb⟩ := bdK_sound h
    obtain ⟨Ψ, v, h, hl⟩ := cv_load ht h
    refine ⟨_, v, [], h, Snd.pure fun p E H w ρv hr hh hops => ?_⟩
    obtain ⟨p1, p2, p3⟩ := p
    have hv := hops x (by rw [ho]; simp [opnds])
    rw [hx, rep] at hv
    have hH := hh r e he
    have hpt := hv.2 (p1.trans (hr.ver r e hH).symm)
    obtain ⟨hb1, hb2⟩ := hb p2
    obtain ⟨cs, h5, h6, h7⟩ := hr.cells hH hb1
    obtain ⟨cv, hc2, _, hc1⟩ := hl p3 E w cs h6
    have hc1 := hc1 (E.ρ r) (i * e.bd.sz) h7
    refine ⟨cv, ?_, hc2⟩
    rw [hb2] at hpt
    exact exec_load ho hpt hc1
  · rename_i z cells j hx
    obtain ⟨Ψ, v, h, hl⟩ := cv_load ht h
    refine ⟨_, v, [], h, Snd.pure fun p E H w ρv hr hh hops => ?_⟩
    have hv := hops x (by rw [ho]; simp [opnds])
    rw [hx, rep] at hv
    obtain ⟨b, o', cs, hpt, _, h6, h7⟩ := hv
    obtain ⟨cv, hc2, _, hc1⟩ := hl p E w cs h6
    have hc1 := hc1 b o' h7
    exact ⟨cv, exec_load ho hpt hc1, hc2⟩
  · exact h.elim

/-! nilCheck, addresses -/
def curK (hg : Nat → Option Ent) (r ver : Nat) (K : Prop → Prop) : Prop := match hg r with
  | none => False
  | some e => K (ver = e.ver)
theorem curK_sound {r ver : Nat} {K : Prop → Prop} (h : curK hg r ver K) : ∃ Φ, K Φ ∧ (Φ → ∀ (E : Env) (H : List Ent) (w : World), HR E w H → (∀ (r : Nat) (e : Ent), hg r = some e → H[r]? = some e) → ver = E.ver r) := by
  unfold curK at h
  split at h
  · exact h.elim
  · rename_i e he
    exact ⟨_, h, fun p E H w hr hh => p.trans (hr.ver r e (hh r e he)).symm⟩
def nilK (hg : Nat → Option Ent) (x : AV) (K : KF) : Prop := match x with
  | .ref r ver sz i j => curK hg r ver fun Φ => K Φ (.ref r ver sz i j) []
  | .cp z cells j => K True (.cp z cells j) []
  | .clo f caps => K True (.clo f caps) []
  | .val (.pointer none) => K False .any []
  | _ => False
theorem nil_sound {x : Operand} (ho : o.op = .nilCheck x) {K : KF} (h : nilK hg (ev x) K) : ∃ Φ v us, K Φ v us ∧ Snd P o ev hg Φ v us := by
  unfold nilK at h
  split at h
  · rename_i r ver sz i j hx
    obtain ⟨Φ, h, hc⟩ := curK_sound h
    refine ⟨Φ, _, [], h, Snd.pure fun p E H w ρv hr hh hops => ?_⟩
    have hv := hops x (by rw [ho]; simp [opnds])
    rw [hx] at hv
    refine ⟨ρv x, ?_, hv⟩
    rw [rep] at hv
    have hpt := hv.2 (hc p E H w hr hh)
    unfold execOp; simp only [ho, hpt, Sem.run_pure]
  · rename_i z cells j hx
    refine ⟨_, _, [], h, Snd.pure fun p E H w ρv hr hh hops => ?_⟩
    have hv := hops x (by rw [ho]; simp [opnds])
    rw [hx] at hv
    refine ⟨ρv x, ?_, hv⟩
    rw [rep] at hv
    obtain ⟨b, o', cs, hpt, _⟩ := hv
    unfold execOp; simp only [ho, hpt, Sem.run_pure]
  · rename_i f caps hx
    refine ⟨_, _, [], h, Snd.pure fun p E H w ρv hr hh hops => ?_⟩
    have hv := hops x (by rw [ho]; simp [opnds])
    rw [hx] at hv
    refine ⟨ρv x, ?_, hv⟩
    rw [rep] at hv
    obtain ⟨cs, hpt, _⟩ := hv
    unfold execOp; simp only [ho, hpt, Sem.run_pure]
  · exact ⟨_, _, _, h, fun p => p.elim⟩
  · exact h.elim
def fieldOf (tb : TypeId → Option TI) (T k : Nat) (K : Nat → TI → TypeId → Prop) : Prop := match tb T with
  | some ti => match ti.u with
    | .struct fs => match fs[k]? with
      | some (off, ft) => match tb ft with
        | some fi => K off fi ft
        | none => False
      | none => False
    | _ => False
  | none => False
theorem fieldOf_sound {tb : TypeId → Option TI} (htb : TbOk P tb) {T k : Nat} {K : Nat → TI → TypeId → Prop} (h : fieldOf tb T k K) :
    ∃ off fi flds f, K off fi f.type ∧ P.underlying T = some (.struct flds) ∧ flds[k]? = some f ∧ f.offset = off ∧ TIok P f.type fi := by
  unfold fieldOf at h
  repeat (split at h; rotate_left; (try exact h.elim))
  all_goals (try exact h.elim)
  rename_i ti hti _ fs hfs _ off ft hk _ fi hfi
  have ht := (htb T ti hti).u
  rw [hfs] at ht
  obtain ⟨flds, h1, h2⟩ := ht
  rw [← h2, List.getElem?_map] at hk
  obtain ⟨f, hf, he⟩ := Option.map_eq_some_iff.1 hk
  cases he
  exact ⟨_, fi, flds, f, h, h1, by simpa using hf, rfl, htb _ _ hfi⟩
def fieldAddrK (tb : TypeId → Option TI) (hg : Nat → Option Ent) (T : TypeId) (x : AV) (k : Nat) (K : KF) : Prop :=
  fieldOf tb T k fun off fi _ => match x with
    | .ref r ver sz i j => curK hg r ver fun Φ => K (Φ ∧ fi.sz ≠ 0) (.ref r ver sz i (j + off)) []
    | .cp z cells j => K (fi.sz ≠ 0) (.cp z cells (j + off)) []
    | _ => False
theorem fieldAddr_sound {tb : TypeId → Option TI} (htb : TbOk P tb) {T : TypeId} {x : Operand} {k : Nat} (ho : o.op = .fieldAddr T x k) {K : KF} (h : fieldAddrK tb hg T (ev x) k K) : ∃ Φ v us, K Φ v us ∧ Snd P o ev hg Φ v us := by
  obtain ⟨off, fi, flds, f, h, hu, hf, hoff, hfi⟩ := fieldOf_sound htb h
  have hrun : ∀ (w : World) (ρv : Operand → Value) (b o' : Nat), fi.sz ≠ 0 → ρv x = .pointer (some ⟨b, o', none⟩) → (execOp ρv o).run P w = .ok (.value (.pointer (some ⟨b, o' + off, none⟩))) w := by
    intro w ρv b o' hz hx
    unfold execOp
    simp only [ho, hx]
    unfold Instr.fieldAt fieldPlace
    simp [Sem.run_bind, run_underlying hu, hf, Instr.sureAddr, hfi.sizeOf, hz, hoff, Addr.add_lit]
  split at h
  · rename_i r ver sz i j hx
    obtain ⟨Φ, h, hc⟩ := curK_sound h
    refine ⟨_, _, [], h, Snd.pure fun p E H w ρv hr hh hops => ?_⟩
    have hv := hops x (by rw [ho]; simp [opnds])
    rw [hx, rep] at hv
    have hpt := hv.2 (hc p.1 E H w hr hh)
    refine ⟨_, hrun w ρv _ _ p.2 hpt, ?_⟩
    rw [rep]
    exact ⟨hv.1, fun _ => by rw [Nat.add_assoc]⟩
  · rename_i z cells j hx
    refine ⟨_, _, [], h, Snd.pure fun p E H w ρv hr hh hops => ?_⟩
    have hv := hops x (by rw [ho]; simp [opnds])
    rw [hx, rep] at hv
    obtain ⟨b, o', cs, hpt, h1, h2, h3⟩ := hv
    refine ⟨_, hrun w ρv _ _ p hpt, ?_⟩
    rw [rep]
    exact ⟨b, o', cs, by rw [Nat.add_assoc], h1, h2, h3⟩
  · exact h.elim
end
end Go.Proofs.Ytjfenbkhgamidaa
