/- Abstract values: index, slice, len, numbers, parts. Conditions: what 'TIok' says of the types. -/
import Derived.Test.YtjfenbkhgamidaaAv4
namespace Go.Proofs.Ytjfenbkhgamidaa
set_option linter.unusedVariables false
section
variable {P : Program} {o : Oper} {ev : Operand → AV} {hg : Nat → Option Ent}
/-! index -/
def szOf (tb : TypeId → Option TI) (E : TypeId) (K : Nat → Prop) : Prop := match tb E with
  | some ti => K ti.sz
  | none => False
theorem szOf_sound {tb : TypeId → Option TI} (htb : TbOk P tb) {E : TypeId} {K : Nat → Prop} (h : szOf tb E K) : ∃ ti, K ti.sz ∧ TIok P E ti := by
  unfold szOf at h
  split at h
  · rename_i ti hti; exact ⟨ti, h, htb _ _ hti⟩
  · exact h.elim
def indexAddrK (tb : TypeId → Option TI) (hg : Nat → Option Ent) (T : TypeId) (x y : AV) (K : KF) : Prop :=
  match tb T with
  | none => False
  | some ti => match y with
    | .val (.int k n) => match ti.u with
      | .slice E => szOf tb E fun s => match x with
        | .own r ver sz off m => curK hg r ver fun Φ => K (Φ ∧ sz = s ∧ 0 ≤ n ∧ n < m) (.ref r ver sz (off + n.toNat) 0) []
        | .bs z l => K (s = 1 ∧ 0 ≤ n ∧ n < l.length) (.cp z [.val (.int .u8 (l.getD n.toNat 0).toNat)] 0) []
        | .sl z sz f d l => K (sz = s ∧ 0 ≤ n ∧ n < l.length) (.cp z (f (l.getD n.toNat d)) 0) []
        | _ => False
      | .array m E => szOf tb E fun s => match x with
        | .ref r ver sz i j => curK hg r ver fun Φ => K (Φ ∧ 0 ≤ n ∧ n < m) (.ref r ver sz i (j + n.toNat * s)) []
        | .cp z cells j => K (0 ≤ n ∧ n < m) (.cp z cells (j + n.toNat * s)) []
        | _ => False
      | _ => False
    | _ => False
theorem run_indexAt_slice {T E : TypeId} {ti : TI} (hT : P.underlying T = some (.slice E)) (hE : TIok P E ti) {k : IntKind} {n : Int} {m c b o' : Nat} (h0 : 0 ≤ n) (h1 : n < m) (w : World) :
    (Instr.indexAt T (.slice (some ⟨b, o', none⟩) m c) (.int k n)).run P w = .ok (.pointer (some ⟨b, o' + n.toNat * ti.sz, none⟩)) w := by
  unfold Instr.indexAt
  simp [Sem.run_bind, asIntOf, run_underlying hT, h0, h1, hE.sizeOf, Addr.add_lit]
theorem run_indexAt_array {T E : TypeId} {ti : TI} {m : Nat} (hT : P.underlying T = some (.array m E)) (hE : TIok P E ti) {k : IntKind} {n : Int} {b o' : Nat} (h0 : 0 ≤ n) (h1 : n < m) (w : World) :
    (Instr.indexAt T (.pointer (some ⟨b, o', none⟩)) (.int k n)).run P w = .ok (.pointer (some ⟨b, o' + n.toNat * ti.sz, none⟩)) w := by
  unfold Instr.indexAt
  simp [Sem.run_bind, asIntOf, run_underlying hT, h0, h1, hE.sizeOf, Addr.add_lit, Instr.sureAddr]
theorem indexAddr_sound {tb : TypeId → Option TI} (htb : TbOk P tb) {T : TypeId} {x y : Operand} (ho : o.op = .indexAddr T x y) {K : KF} (h : indexAddrK tb hg T (ev x) (ev y) K) : ∃ Φ v us, K Φ v us ∧ Snd P o ev hg Φ v us := by
  unfold indexAddrK at h
  split at h
  · exact h.elim
  rename_i ti hti
  have hT := (htb T ti hti).u
  split at h
  rotate_left
  · exact h.elim
  rename_i k n hy
  have hops2 : ∀ {E : Env} {w : World} {ρv : Operand → Value}, (∀ x ∈ opnds o.op, rep E w (ev x) (ρv x)) → rep E w (ev x) (ρv x) ∧ ρv y = .int k n := by
    intro E w ρv hops
    refine ⟨hops x (by rw [ho]; simp [opnds]), ?_⟩
    have := hops y (by rw [ho]; simp [opnds])
    rw [hy] at this
    exact rep_val this
  have hex : ∀ {w : World} {ρv : Operand → Value} {v : Value}, (Instr.indexAt T (ρv x) (ρv y)).run P w = .ok v w → (execOp ρv o).run P w = .ok (.value v) w := by
    intro w ρv v hr
    unfold execOp
    simp only [ho, Sem.run_bind, hr, Result.andThen_ok, Sem.run_pure]
  split at h
  · rename_i E hu
    rw [hu] at hT
    obtain ⟨ei, h, hE⟩ := szOf_sound htb h
    split at h
    · rename_i r ver sz off m hx
      obtain ⟨Φ, h, hc⟩ := curK_sound h
      refine ⟨_, _, [], h, Snd.pure fun p E' H w ρv hr hh hops => ?_⟩
      obtain ⟨p1, p2, p3, p4⟩ := p
      obtain ⟨hv, hn⟩ := hops2 hops
      rw [hx, rep] at hv
      obtain ⟨a, c, hsl, h1, h2, h2', h3⟩ := hv.2 (hc p1 E' H w hr hh)
      have hc0 : c ≠ 0 := by omega
      obtain ⟨_, rfl, _⟩ := h3.resolve_left hc0
      have hrun := run_indexAt_slice (k := k) (c := c) (b := E'.ρ r) (o' := off * sz) (m := m) hT hE p3 p4 w
      refine ⟨_, hex (by rw [hsl, hn]; exact hrun), ?_⟩
      rw [rep]
      refine ⟨hv.1, fun _ => ?_⟩
      rw [p2, Nat.add_mul, Nat.add_zero]
    · rename_i z l hx
      refine ⟨_, _, [], h, Snd.pure fun p E' H w ρv hr hh hops => ?_⟩
      obtain ⟨p1, p2, p3⟩ := p
      obtain ⟨hv, hn⟩ := hops2 hops
      rw [hx, rep] at hv
      obtain ⟨a, m, c, hsl, rfl, h1, h2, h3, h4⟩ := hv
      have hlt : n.toNat < l.length := by omega
      obtain ⟨b, o', rfl, hz, hcell⟩ := h4 n.toNat l[n.toNat] (List.getElem?_eq_getElem hlt)
      have hrun := run_indexAt_slice (k := k) (c := c) (b := b) (o' := o') (m := l.length) hT hE p2 p3 w
      refine ⟨_, hex (by rw [hsl, hn]; exact hrun), ?_⟩
      rw [rep]
      refine ⟨b, o' + n.toNat, [bv l[n.toNat]], by rw [p1]; simp, hz, ?_, ?_⟩
      · simp only [reps, rep]
        exact ⟨_, _, rfl, by simp [bv, List.getD, hlt], rfl⟩
      · intro j u hu
        cases j with
        | zero => simp at hu; subst hu; exact hcell
        | succ j => simp at hu
    · rename_i z sz α f d l hx
      refine ⟨_, _, [], h, Snd.pure fun p E' H w ρv hr hh hops => ?_⟩
      obtain ⟨p1, p2, p3⟩ := p
      obtain ⟨hv, hn⟩ := hops2 hops
      rw [hx, rep] at hv
      obtain ⟨a, m, c, hsl, rfl, h1, h2, h3, h4⟩ := hv
      have hlt : n.toNat < l.length := by omega
      obtain ⟨b, o', cs, rfl, hz, hcl, hcs, hcell⟩ := h4 n.toNat l[n.toNat] (List.getElem?_eq_getElem hlt)
      have hrun := run_indexAt_slice (k := k) (c := c) (b := b) (o' := o') (m := l.length) hT hE p2 p3 w
      refine ⟨_, hex (by rw [hsl, hn]; exact hrun), ?_⟩
      rw [rep]
      refine ⟨b, o' + n.toNat * sz, cs, by rw [p1]; simp, hz, ?_, hcell⟩
      simpa [List.getD, hlt] using hcs
    · exact h.elim
  · rename_i m E hu
    rw [hu] at hT
    obtain ⟨ei, h, hE⟩ := szOf_sound htb h
    split at h
    · rename_i r ver sz i j hx
      obtain ⟨Φ, h, hc⟩ := curK_sound h
      refine ⟨_, _, [], h, Snd.pure fun p E' H w ρv hr hh hops => ?_⟩
      obtain ⟨p1, p3, p4⟩ := p
      obtain ⟨hv, hn⟩ := hops2 hops
      rw [hx, rep] at hv
      have hpt := hv.2 (hc p1 E' H w hr hh)
      have hrun := run_indexAt_array (k := k) (b := E'.ρ r) (o' := i * sz + j) hT hE p3 p4 w
      refine ⟨_, hex (by rw [hpt, hn]; exact hrun), ?_⟩
      rw [rep]
      exact ⟨hv.1, fun _ => by rw [Nat.add_assoc]⟩
    · rename_i z cells j hx
      refine ⟨_, _, [], h, Snd.pure fun p E' H w ρv hr hh hops => ?_⟩
      obtain ⟨hv, hn⟩ := hops2 hops
      rw [hx, rep] at hv
      obtain ⟨b, o', cs, hpt, hz, hcs, hcell⟩ := hv
      have hrun := run_indexAt_array (k := k) (b := b) (o' := o' + j) hT hE p.1 p.2 w
      refine ⟨_, hex (by rw [hpt, hn]; exact hrun), ?_⟩
      rw [rep]
      exact ⟨b, o', cs, by rw [Nat.add_assoc], hz, hcs, hcell⟩
    · exact h.elim
  · exact h.elim

/-! index of a string or an array that is a value -/
def indexK (tb : TypeId → Option TI) (T : TypeId) (x y : AV) (K : KF) : Prop :=
  match tb T with
  | none => False
  | some ti => match y with
    | .val (.int k n) => match ti.u with
      | .string => match x with
        | .val (.string s) => K (0 ≤ n ∧ n < s.size) (.val (.int .u8 (s.data.toList.getD n.toNat 0).toNat)) []
        | _ => False
      | .array m E => match tb E with
        | some ei => match x with
          | .agg l => cvK ei (dropL l (n.toNat * ei.sz)) fun Ψ v => K (0 ≤ n ∧ n < m ∧ Ψ) v []
          | _ => False
        | none => False
      | _ => False
    | _ => False
theorem index_sound {tb : TypeId → Option TI} (htb : TbOk P tb) {T : TypeId} {x y : Operand} (ho : o.op = .index T x y) {K : KF} (h : indexK tb T (ev x) (ev y) K) : ∃ Φ v us, K Φ v us ∧ Snd P o ev hg Φ v us := by
  unfold indexK at h
  split at h
  · exact h.elim
  rename_i ti hti
  have hT := (htb T ti hti).u
  split at h
  rotate_left
  · exact h.elim
  rename_i k n hy
  have hops2 : ∀ {E : Env} {w : World} {ρv : Operand → Value}, (∀ x ∈ opnds o.op, rep E w (ev x) (ρv x)) → rep E w (ev x) (ρv x) ∧ ρv y = .int k n := by
    intro E w ρv hops
    refine ⟨hops x (by rw [ho]; simp [opnds]), ?_⟩
    have := hops y (by rw [ho]; simp [opnds])
    rw [hy] at this
    exact rep_val this
  split at h
  · rename_i hu
    rw [hu] at hT
    split at h
    rotate_left
    · exact h.elim
    rename_i s hx
    refine ⟨_, _, [], h, Snd.pure fun p E' H w ρv hr hh hops => ?_⟩
    obtain ⟨p1, p2⟩ := p
    obtain ⟨hv, hn⟩ := hops2 hops
    rw [hx] at hv
    have hv := rep_val hv
    refine ⟨_, ?_, by rw [rep]⟩
    have hlt : n.toNat < s.size := by omega
    have hlt' : n.toNat < s.data.toList.length := by simpa using hlt
    have e : s[n.toNat]? = some (s.data.toList.getD n.toNat 0) := by
      rw [getElem?_pos s n.toNat hlt]
      have e2 : s[n.toNat] = s.data.toList[n.toNat]'hlt' := rfl
      rw [e2, List.getD, List.getElem?_eq_getElem hlt']; rfl
    unfold execOp
    simp only [ho, hv, hn]
    unfold Instr.index
    have hT' : P.underlying T = some .string := hT
    simp [Sem.run_bind, asIntOf, run_underlying hT', p1, e]
  · rename_i m E hu
    rw [hu] at hT
    split at h
    rotate_left
    · exact h.elim
    rename_i ei hei
    have hE := htb E ei hei
    split at h
    rotate_left
    · exact h.elim
    rename_i l hx
    obtain ⟨Ψ, v, h, hl⟩ := cv_load hE h
    refine ⟨_, _, [], h, Snd.pure fun p E' H w ρv hr hh hops => ?_⟩
    obtain ⟨p1, p2, p3⟩ := p
    obtain ⟨hv, hn⟩ := hops2 hops
    rw [hx, rep] at hv
    obtain ⟨cs, hv, hcs⟩ := hv
    obtain ⟨cv, hr1, hr2, _⟩ := hl p3 E' w cs hcs
    refine ⟨cv, ?_, hr1⟩
    have hT' : P.underlying T = some (.array m E) := hT
    unfold execOp
    simp only [ho, hv, hn]
    unfold Instr.index
    simp [Sem.run_bind, asIntOf, run_underlying hT', p1, p2, hE.sizeOf, hr2]
  · exact h.elim

theorem TIok.slTy {T E : TypeId} {ti : TI} (hT : P.underlying T = some (.slice E)) (hE : TIok P E ti) : ∃ z, SlTy P T E ti.sz ti.bytes z ∧ z.cells.toList = ti.zero := by
  obtain ⟨z, h1, h2⟩ := hE.info
  exact ⟨z, ⟨hT, h1, by have := hE.zsz; rw [← h2] at this; simpa using this⟩, h2⟩
/-! slice -/
def bndK (a : Option AV) (d : Int) (K : Int → Prop) : Prop := match a with
  | none => K d
  | some (.val (.int _ n)) => K n
  | some _ => False
theorem bndK_sound {a : Option Operand} {d : Nat} {K : Int → Prop} (h : bndK (a.map ev) d K) : ∃ n : Int, K n ∧ ∀ (E : Env) (w : World) (ρv : Operand → Value), (∀ x ∈ a.toList, rep E w (ev x) (ρv x)) → 0 ≤ n → isBound (a.map ρv) d n.toNat := by
  cases a with
  | none => exact ⟨d, h, fun E w ρv _ _ => .inl ⟨rfl, by simp⟩⟩
  | some x =>
    simp only [Option.map_some, bndK] at h
    split at h
    · rename_i h1; cases h1
    · rename_i k n h1
      have hx := Option.some.inj h1
      refine ⟨n, h, fun E w ρv hops hn => .inr ⟨k, ?_⟩⟩
      have := hops x (by simp)
      rw [hx] at this
      simp only [Option.map_some, rep_val this, Option.some.injEq, Value.int.injEq, true_and]
      omega
    · exact h.elim
def sliceK (tb : TypeId → Option TI) (hg : Nat → Option Ent) (T : TypeId) (x : AV) (lo hi : Option AV) (K : KF) : Prop :=
  match tb T with
  | none => False
  | some ti => match ti.u with
    | .slice E => szOf tb E fun s => match x with
      | .own r ver sz off n => curK hg r ver fun Φ => bndK lo 0 fun l => bndK hi n fun h => K (Φ ∧ sz = s ∧ 0 ≤ l ∧ l ≤ h ∧ h ≤ n) (.own r ver sz (off + l.toNat) (h.toNat - l.toNat)) []
      | .bs z c => bndK lo 0 fun l => bndK hi c.length fun h => K (s = 1 ∧ 0 ≤ l ∧ l ≤ h ∧ h ≤ c.length) (.bs z ((c.take h.toNat).drop l.toNat)) []
      | .sl z sz f d c => bndK lo 0 fun l => bndK hi c.length fun h => K (sz = s ∧ 0 ≤ l ∧ l ≤ h ∧ h ≤ c.length) (.sl z sz f d ((c.take h.toNat).drop l.toNat)) []
      | .val (.slice none 0 0) => bndK lo 0 fun l => bndK hi 0 fun h => K (l = 0 ∧ h = 0) (.val (.slice none 0 0)) []
      | _ => False
    | .string => match x with
      | .val (.string c) => bndK lo 0 fun l => bndK hi c.size fun h => K (0 ≤ l ∧ l ≤ h ∧ h ≤ c.size) (.val (.string (c.extract l.toNat h.toNat))) []
      | _ => False
    | _ => False
theorem run_slice_str {T : TypeId} (hT : P.underlying T = some .string) (s : ByteArray) {l h : Nat} {lo hi : Option Value} (hl : isBound lo 0 l) (hh : isBound hi s.size h) (h1 : l ≤ h) (h2 : h ≤ s.size) (w : World) :
    (Instr.sliceAt T (.string s) lo hi none).run P w = .ok (.string (s.extract l h)) w := by

  rcases hl with ⟨rfl, rfl⟩ | ⟨k, rfl⟩ <;> rcases hh with ⟨rfl, rfl⟩ | ⟨k', rfl⟩ <;>
    simp [Instr.sliceAt, Instr.slice, Instr.sliceBounds, Instr.sliceBound, asIntOf, run_underlying hT, Sem.run_bind, h1, h2]
theorem slice_sound {tb : TypeId → Option TI} (htb : TbOk P tb) {T : TypeId} {x : Operand} {lo hi : Option Operand} (ho : o.op = .slice T x lo hi none) {K : KF} (h : sliceK tb hg T (ev x) (lo.map ev) (hi.map ev) K) : ∃ Φ v us, K Φ v us ∧ Snd P o ev hg Φ v us := by
  unfold sliceK at h
  split at h
  · exact h.elim
  rename_i ti hti
  have hT := (htb T ti hti).u
  have hopx : ∀ {E : Env} {w : World} {ρv : Operand → Value}, (∀ x ∈ opnds o.op, rep E w (ev x) (ρv x)) → rep E w (ev x) (ρv x) ∧ (∀ y ∈ lo.toList, rep E w (ev y) (ρv y)) ∧ (∀ y ∈ hi.toList, rep E w (ev y) (ρv y)) := by
    intro E w ρv hops
    rw [ho] at hops
    simp only [opnds] at hops
    exact ⟨hops x (by simp), fun y hy => hops y (by simp at hy ⊢; simp [hy]), fun y hy => hops y (by simp at hy ⊢; simp [hy])⟩
  have hex : ∀ {w : World} {ρv : Operand → Value} {v : Value}, (Instr.sliceAt T (ρv x) (lo.map ρv) (hi.map ρv) none).run P w = .ok v w → (execOp ρv o).run P w = .ok (.value v) w := by
    intro w ρv v hr
    unfold execOp
    simp only [ho, Sem.run_bind, Option.map_none, hr, Result.andThen_ok, Sem.run_pure]
  split at h
  · rename_i E hu
    rw [hu] at hT
    obtain ⟨ei, h, hE⟩ := szOf_sound htb h
    obtain ⟨z0, hS, _⟩ := hE.slTy hT
    split at h
    · rename_i r ver sz off n hx
      obtain ⟨Φ, h, hc⟩ := curK_sound h
      obtain ⟨l, h, hl⟩ := bndK_sound h
      obtain ⟨hh', h, hh1⟩ := bndK_sound h
      refine ⟨_, _, [], h, Snd.pure fun p E' H w ρv hr hh hops => ?_⟩
      obtain ⟨p1, p2, p3, p4, p5⟩ := p
      obtain ⟨hv, hol, hoh⟩ := hopx hops
      rw [hx, rep] at hv
      obtain ⟨a, c, hsl, h1, h2, h2', h3⟩ := hv.2 (hc p1 E' H w hr hh)
      have hrun := run_slice_at hS (a := a) (n := n) (c := c) (hl E' w ρv hol p3) (hh1 E' w ρv hoh (by omega)) (by omega) (by omega) w
      refine ⟨_, hex (by rw [hsl]; exact hrun), ?_⟩
      rw [rep]
      refine ⟨hv.1, fun _ => ⟨_, _, rfl, by omega, by omega, ?_, ?_⟩⟩
      · intro e
        split at e
        · omega
        · have := h2' (by simpa using e); omega
      · by_cases hc0 : c = l.toNat
        · left; omega
        · right
          have hc1 : c ≠ 0 := by omega
          obtain ⟨h30, rfl, cur, T', fz, h4, h5⟩ := h3.resolve_left hc1
          refine ⟨h30, ?_, cur, T', fz, h4, ?_⟩
          · simp only [hc0, if_false, Option.map_some, Addr.add_lit, p2, Nat.add_mul]
          · have : off + l.toNat + (c - l.toNat) = off + c := by omega
            rw [this]; exact h5
    · rename_i z cc hx
      obtain ⟨l, h, hl⟩ := bndK_sound h
      obtain ⟨hh', h, hh1⟩ := bndK_sound h
      refine ⟨_, _, [], h, Snd.pure fun p E' H w ρv hr hh hops => ?_⟩
      obtain ⟨p2, p3, p4, p5⟩ := p
      obtain ⟨hv, hol, hoh⟩ := hopx hops
      rw [hx, rep] at hv
      obtain ⟨a, n, c, hsl, rfl, h1, h2, h2', h3⟩ := hv
      have hrun := run_slice_at hS (a := a) (n := cc.length) (c := c) (hl E' w ρv hol p3) (hh1 E' w ρv hoh (by omega)) (by omega) (by omega) w
      refine ⟨_, hex (by rw [hsl]; exact hrun), ?_⟩
      rw [rep]
      refine ⟨_, _, _, rfl, by simp; omega, by omega, by omega, ?_, ?_⟩
      · intro e
        split at e
        · omega
        · have := h2' (by simpa using e); omega
      · intro i u hu
        rw [List.getElem?_drop, List.getElem?_take] at hu
        split at hu
        · obtain ⟨b, o', rfl, hz, hcell⟩ := h3 _ u hu
          have hc0 : c ≠ l.toNat := by omega
          refine ⟨b, o' + l.toNat, ?_, hz, ?_⟩
          · simp only [hc0, if_false, Option.map_some, Addr.add_lit, p2, Nat.mul_one]
          · rw [Nat.add_assoc]; exact hcell
        · cases hu
    · rename_i z sz α f d cc hx
      obtain ⟨l, h, hl⟩ := bndK_sound h
      obtain ⟨hh', h, hh1⟩ := bndK_sound h
      refine ⟨_, _, [], h, Snd.pure fun p E' H w ρv hr hh hops => ?_⟩
      obtain ⟨p2, p3, p4, p5⟩ := p
      obtain ⟨hv, hol, hoh⟩ := hopx hops
      rw [hx, rep] at hv
      obtain ⟨a, n, c, hsl, rfl, h1, h2, h2', h3⟩ := hv
      have hrun := run_slice_at hS (a := a) (n := cc.length) (c := c) (hl E' w ρv hol p3) (hh1 E' w ρv hoh (by omega)) (by omega) (by omega) w
      refine ⟨_, hex (by rw [hsl]; exact hrun), ?_⟩
      rw [rep]
      refine ⟨_, _, _, rfl, by simp; omega, by omega, by omega, ?_, ?_⟩
      · intro e
        split at e
        · omega
        · have := h2' (by simpa using e); omega
      · intro i u hu
        rw [List.getElem?_drop, List.getElem?_take] at hu
        split at hu
        · obtain ⟨b, o', cs, rfl, hz, hcl, hcs, hcell⟩ := h3 _ u hu
          have hc0 : c ≠ l.toNat := by omega
          refine ⟨b, o' + l.toNat * sz, cs, ?_, hz, hcl, hcs, fun j u hu => ?_⟩
          · simp only [hc0, if_false, Option.map_some, Addr.add_lit, p2]
          · have := hcell j u hu
            rw [Nat.add_mul] at this
            rw [Nat.add_assoc o']; exact this
        · cases hu
    · rename_i hx
      obtain ⟨l, h, hl⟩ := bndK_sound (d := 0) h
      obtain ⟨hh', h, hh1⟩ := bndK_sound (d := 0) h
      refine ⟨_, _, [], h, Snd.pure fun p E' H w ρv hr hh hops => ?_⟩
      obtain ⟨rfl, rfl⟩ := p
      obtain ⟨hv, hol, hoh⟩ := hopx hops
      rw [hx] at hv
      have hv := rep_val hv
      have hrun := run_slice_at hS (a := none) (n := 0) (c := 0) (hl E' w ρv hol (by omega)) (hh1 E' w ρv hoh (by omega)) (by omega) (by omega) w
      exact ⟨_, hex (by rw [hv]; exact hrun), by rw [rep]; rfl⟩
    · exact h.elim
  · rename_i hu
    rw [hu] at hT
    have hT' : P.underlying T = some .string := hT
    split at h
    rotate_left
    · exact h.elim
    rename_i c hx
    obtain ⟨l, h, hl⟩ := bndK_sound h
    obtain ⟨hh', h, hh1⟩ := bndK_sound h
    refine ⟨_, _, [], h, Snd.pure fun p E' H w ρv hr hh hops => ?_⟩
    obtain ⟨p3, p4, p5⟩ := p
    obtain ⟨hv, hol, hoh⟩ := hopx hops
    rw [hx] at hv
    have hv := rep_val hv
    refine ⟨_, hex (v := .string (c.extract l.toNat hh'.toNat)) ?_, by rw [rep]⟩
    have b1 := hl E' w ρv hol p3
    have b2 := hh1 E' w ρv hoh (by omega)
    have q1 : l.toNat ≤ hh'.toNat := by omega
    have q2 : hh'.toNat ≤ c.size := by omega
    rw [hv]
    exact run_slice_str hT' c b1 b2 q1 q2 w
  · exact h.elim
/-! slice with three places -/
def slice3K (tb : TypeId → Option TI) (hg : Nat → Option Ent) (T : TypeId) (x : AV) (lo : Option AV) (hi mx : AV) (K : KF) : Prop :=
  match tb T with
  | none => False
  | some ti => match ti.u with
    | .slice E => szOf tb E fun s => match x with
      | .own r ver sz off n => curK hg r ver fun Φ => bndK lo 0 fun l => bndK (some hi) 0 fun h => bndK (some mx) 0 fun m => K (Φ ∧ sz = s ∧ 0 ≤ l ∧ l ≤ h ∧ h ≤ m ∧ m ≤ n) (.own r ver sz (off + l.toNat) (h.toNat - l.toNat)) []
      | _ => False
    | _ => False
theorem run_slice3_at {t E : TypeId} {sz bytes : Nat} {z : Value} (T : SlTy P t E sz bytes z) {a : Option Addr} {n c l h m : Nat} {lo : Option Value} {hi mx : Value} (hl : isBound lo 0 l) (hh : isBound (some hi) 0 h) (hm : isBound (some mx) 0 m) (h1 : l ≤ h) (h2 : h ≤ m) (h3 : m ≤ c) (w : World) :
    (Instr.sliceAt t (.slice a n c) lo (some hi) (some mx)).run P w = .ok (.slice (if m = l then a else a.map (·.add (l * sz))) (h - l) (m - l)) w := by
  obtain ⟨i, hi', hz, hsz, hby⟩ := info_parts T.info
  subst hsz
  rcases hh with ⟨q, _⟩ | ⟨k', hq⟩
  · cases q
  cases hq
  rcases hm with ⟨q, _⟩ | ⟨k2, hq⟩
  · cases q
  cases hq
  rcases hl with ⟨rfl, rfl⟩ | ⟨k, rfl⟩ <;>
    simp [Instr.sliceAt, Instr.slice, Instr.sliceBounds, Instr.sliceBound, asIntOf, run_underlying T.under, Sem.run_bind, Go.sizeOf, typeInfo, hi', h1, h2, h3]
theorem slice3_sound {tb : TypeId → Option TI} (htb : TbOk P tb) {T : TypeId} {x : Operand} {lo : Option Operand} {hi mx : Operand} (ho : o.op = .slice T x lo (some hi) (some mx)) {K : KF} (h : slice3K tb hg T (ev x) (lo.map ev) (ev hi) (ev mx) K) : ∃ Φ v us, K Φ v us ∧ Snd P o ev hg Φ v us := by
  unfold slice3K at h
  split at h
  · exact h.elim
  rename_i ti hti
  have hT := (htb T ti hti).u
  have hopx : ∀ {E : Env} {w : World} {ρv : Operand → Value}, (∀ x ∈ opnds o.op, rep E w (ev x) (ρv x)) → rep E w (ev x) (ρv x) ∧ (∀ y ∈ lo.toList, rep E w (ev y) (ρv y)) ∧ rep E w (ev hi) (ρv hi) ∧ rep E w (ev mx) (ρv mx) := by
    intro E w ρv hops
    rw [ho] at hops
    simp only [opnds] at hops
    exact ⟨hops x (by simp), fun y hy => hops y (by simp at hy ⊢; simp [hy]), hops hi (by simp), hops mx (by simp)⟩
  split at h
  rotate_left
  · exact h.elim
  rename_i E hu
  rw [hu] at hT
  obtain ⟨ei, h, hE⟩ := szOf_sound htb h
  obtain ⟨z0, hS, _⟩ := hE.slTy hT
  split at h
  rotate_left
  · exact h.elim
  rename_i r ver sz off n hx
  obtain ⟨Φ, h, hc⟩ := curK_sound h
  obtain ⟨l, h, hl⟩ := bndK_sound h
  obtain ⟨hh', h, hh1⟩ := bndK_sound (a := some hi) (d := 0) h
  obtain ⟨m', h, hm1⟩ := bndK_sound (a := some mx) (d := 0) h
  refine ⟨_, _, [], h, Snd.pure fun p E' H w ρv hr hh hops => ?_⟩
  obtain ⟨p1, p2, p3, p4, p5, p6⟩ := p
  obtain ⟨hv, hol, hoh, hom⟩ := hopx hops
  rw [hx, rep] at hv
  obtain ⟨a, c, hsl, h1, h2, h2', h3⟩ := hv.2 (hc p1 E' H w hr hh)
  have hrun := run_slice3_at hS (a := a) (n := n) (c := c) (hl E' w ρv hol p3) (hh1 E' w ρv (by simpa using hoh) (by omega)) (hm1 E' w ρv (by simpa using hom) (by omega)) (by omega) (by omega) (by omega) w
  refine ⟨.slice (if m'.toNat = l.toNat then a else a.map (·.add (l.toNat * ei.sz))) (hh'.toNat - l.toNat) (m'.toNat - l.toNat), ?_, ?_⟩
  · unfold execOp
    simp only [ho, Sem.run_bind, Option.map_some, hsl, hrun, Result.andThen_ok, Sem.run_pure]
  rw [rep]
  refine ⟨hv.1, fun _ => ⟨_, _, rfl, by omega, by omega, ?_, ?_⟩⟩
  · intro e
    split at e
    · omega
    · have := h2' (by simpa using e); omega
  · by_cases hc0 : m'.toNat = l.toNat
    · left; omega
    · right
      have hc1 : c ≠ 0 := by omega
      obtain ⟨h30, rfl, cur, T', fz, h4, h5⟩ := h3.resolve_left hc1
      refine ⟨h30, ?_, cur, T', fz, h4, ?_⟩
      · simp only [hc0, if_false, Option.map_some, Addr.add_lit, p2, Nat.add_mul]
      · have : (off + l.toNat + (m'.toNat - l.toNat)) * sz ≤ (off + c) * sz := Nat.mul_le_mul_right _ (by omega)
        omega
end
end Go.Proofs.Ytjfenbkhgamidaa
