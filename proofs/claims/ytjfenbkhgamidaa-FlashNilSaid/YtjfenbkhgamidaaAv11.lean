/- Abstract values: conversions of bytes, and all operations together ('stepK'). Conditions: what 'TIok' says of the types. -/
import Derived.Test.YtjfenbkhgamidaaAv10
namespace Go.Proofs.Ytjfenbkhgamidaa
open Go.RowKit
set_option linter.unusedVariables false
section
variable {P : Program} {o : Oper} {ev : Operand → AV} {hg : Nat → Option Ent}
theorem bs_of_rep {E : Env} {w : World} {z : Nat} {l : List UInt8} {v : Value} (h : rep E w (.bs z l) v) : BS w v l := by
  rw [rep] at h
  obtain ⟨a, n, c, rfl, rfl, h1, h2, h3, h4⟩ := h
  refine ⟨a, _, c, rfl, by simp, h1, h2, h3, fun ad had i u hu => ?_⟩
  simp only [bvs, List.getElem?_map, Option.map_eq_some_iff] at hu
  obtain ⟨x, hx, rfl⟩ := hu
  obtain ⟨b, o, rfl, _, hc⟩ := h4 i x hx
  cases had
  rw [Addr.add_lit]; exact hc
theorem bs_of_own {E : Env} {w : World} {H : List Ent} (hr : HR E w H) {r : Nat} {e : Ent} (he : H[r]? = some e) {ver off n : Nat} {l : List UInt8} (hb : e.bd = .bytes l) (hver : ver = e.ver) (hle : off + n ≤ l.length) {v : Value} (h : rep E w (.own r ver 1 off n) v) : BS w v ((l.drop off).take n) := by
  rw [rep] at h
  obtain ⟨a, c, rfl, h1, h2, h3, h4⟩ := h.2 (hver.trans (hr.ver r e he).symm)
  refine ⟨a, n, c, rfl, by simp; omega, h1, h2, h3, fun ad had i u hu => ?_⟩
  simp only [bvs, List.getElem?_map, Option.map_eq_some_iff, List.getElem?_take, List.getElem?_drop] at hu
  obtain ⟨x, hx, rfl⟩ := hu
  split at hx
  rotate_left
  · cases hx
  rename_i hi
  obtain ⟨_, rfl, _⟩ := h4.resolve_left (by omega)
  cases had
  obtain ⟨cs, k1, k2, k3⟩ := hr.cells (i := off + i) he (ys := [.val (bv x)]) (by rw [hb]; simp [Bd.at, hx])
  rw [hb] at k3
  rw [Addr.add_lit, Nat.mul_one]
  have : cs[0]? = some (bv x) := by
    simp only [reps, rep] at k2
    obtain ⟨u, vs, rfl, rfl, rfl⟩ := k2
    rfl
  have := k3 0 _ this
  simpa [Bd.sz] using this
/-- the bytes that a value is -/
def bytesK (hg : Nat → Option Ent) (x : AV) (K : Prop → List UInt8 → Prop) : Prop := match x with
  | .bs _ l => K True l
  | .val (.slice none 0 0) => K True []
  | .own r ver sz off n => match hg r with
    | none => False
    | some e => match e.bd with
      | .bytes l => K (ver = e.ver ∧ sz = 1 ∧ off + n ≤ l.length) ((l.drop off).take n)
      | _ => False
  | _ => False
theorem bytesK_sound {x : AV} {K : Prop → List UInt8 → Prop} (h : bytesK hg x K) : ∃ Ψ l, K Ψ l ∧ (Ψ → ∀ (E : Env) (H : List Ent) (w : World) (v : Value), HR E w H → (∀ (r : Nat) (e : Ent), hg r = some e → H[r]? = some e) → rep E w x v → BS w v l) := by
  unfold bytesK at h
  split at h
  · exact ⟨_, _, h, fun _ E H w v hr hh hv => bs_of_rep hv⟩
  · exact ⟨_, _, h, fun _ E H w v hr hh hv => by rw [rep_val hv]; exact BS.nil w⟩
  · split at h
    · exact h.elim
    rename_i e he
    split at h
    rotate_left
    · exact h.elim
    rename_i l hb
    exact ⟨_, _, h, fun p E H w v hr hh hv => bs_of_own hr (hh _ e he) hb p.1 p.2.2 (by rw [p.2.1] at hv; exact hv)⟩
  · exact h.elim
/-! copy -/
theorem Out.put_same {E : Env} {w : World} {H : List Ent} {r : Nat} {e : Ent} (hr : HR E w H) (he : H[r]? = some e) : Out E E w w H [(r, e)] := by
  have hs : updH H [(r, e)] = H := by
    simp only [updH, setL_eq]
    apply List.ext_getElem?
    intro i
    rw [List.getElem?_set]
    split
    · rename_i h; subst h
      split
      · exact he.symm
      · rename_i h; exact absurd (List.getElem?_eq_some_iff.1 he).1 h
    · rfl
  have O := Out.same hr
  exact ⟨O.ext, by rw [hs]; exact hr, rfl, rfl, rfl, Nat.le_refl _, O.zone, O.grow, fun _ _ _ => rfl, fun r' e' h hl => O.rows r' e' (by rw [hs] at h; exact h) hl⟩
theorem Out.splice {E : Env} {w : World} {H : List Ent} (hr : HR E w H) {r : Nat} {e : Ent} (he : H[r]? = some e) {l m : List UInt8} (hb : e.bd = .bytes l) (hna : ¬ E.abs r) {off : Nat} (hfit : off + m.length ≤ l.length) :
    Out E E w (w.setCells (E.ρ r) off (bvs m)) H [(r, ⟨e.ver, .bytes (l.take off ++ (m ++ l.drop (off + m.length)))⟩)] ∧
    (∀ j, j < m.length → (w.cell? ⟨E.ρ r, off + j, none⟩).isSome = true) ∧ (∀ j, j < m.length → w.frozen? ⟨E.ρ r, off + j, none⟩ = false) := by
  have hl : e.bd.live = true := by rw [hb]; rfl
  obtain ⟨cur, T, lo, hi, h1, h2, h3, h4⟩ := (hr.ent r e he ⟨hl, hna⟩).blk hl
  rw [hb] at h3 h4
  simp only [Bd.count, Bd.sz, Nat.mul_one] at h3 h4
  obtain ⟨hch, hs⟩ := setCells_ch (E.ρ r) (bvs m) off w
  have hrow := heap_setCells_row w (E.ρ r) T (lo, hi) (bvs m) off cur h1 (by simp; omega)
  have hsame : E.set r (E.ρ r) e.ver = E := Env.set_same E rfl (hr.ver r e he).symm hna
  have hcl : cur.toList.length = cur.size := by simp
  refine ⟨?_, fun j hj => by rw [cell_of_row w _ _ cur T (lo, hi) h1]; simp; omega, fun j hj => by simp [World.frozen?, h1]; intro h; rcases h2 with h' | h' <;> omega⟩
  have := Out.one (w' := w.setCells (E.ρ r) off (bvs m)) (bd' := .bytes (l.take off ++ (m ++ l.drop (off + m.length)))) (b := E.ρ r) (v' := e.ver) hr he (.inl ⟨rfl, rfl, hna⟩) (.inl ⟨rfl, hl, hna⟩) hch.os hch.tape hch.output (by omega) (fun k hk hne => hch.block k hk hne) ?_ ?_
  · rw [hsame] at this; exact this
  · intro cur2 T2 fz2 h6
    rw [h1] at h6
    cases h6
    exact ⟨_, _, _, hrow, by simp; omega⟩
  · intro X
    rw [hsame] at X ⊢
    refine ⟨fun _ => ⟨_, _, _, _, hrow, ?_, ?_, ?_⟩⟩
    · rcases h2 with h | h
      · exact .inl h
      · refine .inr ?_
        simp only [List.size_toArray, List.length_append, List.length_take, List.length_drop, Array.length_toList, bvs_length]
        omega
    · simp only [Bd.count, Bd.sz, List.size_toArray, List.length_append, List.length_take, List.length_drop, Array.length_toList, bvs_length]
      omega
    · intro i ys hy
      simp only [Bd.at, Option.map_eq_some_iff] at hy
      obtain ⟨b, hb', rfl⟩ := hy
      refine ⟨[bv b], rfl, by simp only [reps, rep]; exact ⟨_, _, rfl, rfl, rfl⟩, fun j u hu => ?_⟩
      cases j with
      | succ j => simp at hu
      | zero =>
        simp only [List.getElem?_cons_zero, Option.some.injEq] at hu
        subst hu
        simp only [Bd.sz, Nat.mul_one, Nat.add_zero, List.getElem?_toArray]
        have old : ∀ {k : Nat} {x : UInt8}, l[k]? = some x → cur.toList[k]? = some (bv x) := by
          intro k x hx
          obtain ⟨cs, k1, k2, k3⟩ := h4 k [.val (bv x)] (by simp [Bd.at, hx])
          simp only [reps, rep] at k2
          obtain ⟨u, vs, rfl, rfl, rfl⟩ := k2
          have := k3 0 _ rfl
          simpa using this
        simp only [List.getElem?_append, List.getElem?_take, List.getElem?_drop, List.length_take, List.length_append, hcl, bvs_length] at hb' ⊢
        by_cases q1 : i < off
        · have a1 : i < min off l.length := by omega
          have a2 : i < min off cur.size := by omega
          have a3 : i < min off cur.size + m.length := by omega
          simp only [a1, q1, if_true] at hb'
          simp only [a2, a3, q1, if_true]
          exact old hb'
        · have a1 : ¬ i < min off l.length := by omega
          have a2 : ¬ i < min off cur.size := by omega
          have a4 : min off l.length = off := by omega
          have a5 : min off cur.size = off := by omega
          by_cases q2 : i < off + m.length
          · have a3 : i < min off cur.size + m.length := by omega
            have a6 : i - min off l.length < m.length := by omega
            simp only [a1, a6, if_true, if_false] at hb'
            simp only [a2, a3, if_true, if_false]
            rw [a4] at hb'; rw [a5]
            simp [bvs, hb']
          · have a3 : ¬ i < min off cur.size + m.length := by omega
            have a6 : ¬ i - min off l.length < m.length := by omega
            simp only [a1, a6, if_false] at hb'
            simp only [a3, if_false]
            rw [a4] at hb'; rw [a5]
            have e1 : off + m.length + (i - off - m.length) = i := by omega
            have e2 : off + m.length + (i - (off + m.length)) = i := by omega
            rw [e1] at hb'
            rw [e2]; exact old hb'
def copyK (tb : TypeId → Option TI) (hg : Nat → Option Ent) (T : TypeId) (x y : AV) (K : KF) : Prop := match tb T with
  | none => False
  | some ti => match ti.u with
    | .slice El => match tb El with
      | none => False
      | some ei => match x with
        | .own r ver sz off n => match hg r with
          | none => False
          | some e => match e.bd with
            | .bytes l => bytesK hg y fun Ψ m => K ((ver = e.ver ∧ sz = 1 ∧ off + n ≤ l.length ∧ ei.sz = 1) ∧ Ψ) (.val (.int .i64 (min n m.length : Nat))) [(r, ⟨e.ver, .bytes (l.take off ++ (m.take (min n m.length) ++ l.drop (off + min n m.length)))⟩)]
            | _ => False
        | _ => False
    | _ => False
theorem copy_sound {tb : TypeId → Option TI} (htb : TbOk P tb) {T Ts : TypeId} {x y : Operand} (ho : o.op = .call { callee := .builtin .copy, args := #[x, y], argTypes := #[T, Ts] }) {K : KF} (h : copyK tb hg T (ev x) (ev y) K) : ∃ Φ v us, K Φ v us ∧ Snd P o ev hg Φ v us := by
  unfold copyK at h
  split at h
  · exact h.elim
  rename_i ti hti
  have hT := (htb T ti hti).u
  split at h
  rotate_left
  · exact h.elim
  rename_i El hu
  rw [hu] at hT
  have hT' : P.underlying T = some (.slice El) := hT
  split at h
  · exact h.elim
  rename_i ei hei
  have hE := htb El ei hei
  obtain ⟨z, hz, hzc⟩ := hE.info
  obtain ⟨inf, hi, i1, i2, i3⟩ := info_parts hz
  split at h
  rotate_left
  · exact h.elim
  rename_i r ver sz off n hx
  split at h
  · exact h.elim
  rename_i e he
  split at h
  rotate_left
  · exact h.elim
  rename_i l hb
  obtain ⟨Ψ, m, h, hm⟩ := bytesK_sound h
  refine ⟨_, _, _, h, fun p E H w ρv hr hh hops => ?_⟩
  obtain ⟨⟨p1, p2, p3, p4⟩, pΨ⟩ := p
  subst p2
  have hvx := hops x (by rw [ho]; simp [opnds])
  have hvy := hops y (by rw [ho]; simp [opnds])
  rw [hx, rep] at hvx
  have heH := hh r e he
  obtain ⟨a, c, hv, h1, h2, h3, h4⟩ := hvx.2 (p1.trans (hr.ver r e heH).symm)
  obtain ⟨sa, sn, sc, hsv, hsl, hle, _, hnil, hcell⟩ := hm pΨ E H w _ hr hh hvy
  have hsn : sn = m.length := by simpa using hsl.symm
  have hsz1 : (P.info? El).map (·.size) = some 1 := by rw [hi]; simp [i2, p4]
  have hmin : Nat.min sn n = min n m.length := by rw [hsn]; exact Nat.min_comm _ _
  have hrun : ∀ {v' : Value} {w' : World}, (Builtin.copy_ #[T, Ts] o.type #[.slice a n c, .slice sa sn sc]).run P w = .ok v' w' → (execOp ρv o).run P w = .ok (.value v') w' := by
    intro v' w' hc
    unfold execOp
    simp only [ho, resolve, invoke, builtin, Sem.run_bind, Sem.run_pure, Result.andThen_ok, List.map_toArray, List.map_cons, List.map_nil, hv, hsv, hc]
  by_cases hk : min n m.length = 0
  · have hc := run_copy_none (P := P) w T Ts o.type El a sa n c sn sc hT' hsz1 (by rw [hmin]; exact hk)
    refine ⟨_, w, E, .inl (hrun hc), by rw [rep, hk]; rfl, ?_⟩
    have e1 : (⟨e.ver, .bytes (l.take off ++ (m.take (min n m.length) ++ l.drop (off + min n m.length)))⟩ : Ent) = e := by
      cases e with
      | mk ver bd =>
        simp only at hb
        rw [hk, hb]; simp
    rw [e1]
    exact Out.put_same hr heH
  · obtain ⟨hna, ha, cur, Tc, fz, hblk, hcs⟩ := h4.resolve_left (by omega)
    have hlen : (m.take (min n m.length)).length = min n m.length := by simp
    obtain ⟨O, hc1, hc2⟩ := Out.splice (m := m.take (min n m.length)) hr heH hb hna (off := off) (by rw [hlen]; omega)
    rw [hlen] at O hc1 hc2
    cases sa with
    | none => have := hnil rfl
              omega
    | some ad =>
      have hcp := run_copy_cells (P := P) w T Ts o.type El (E.ρ r) off n c ad sn sc (bvs (m.take (min n m.length))) hT' hsz1 (by rw [bvs_length, hlen, hmin]) (fun j v hj => by
        have := hcell ad rfl j v (by
          rw [← bvs_take, List.getElem?_take] at hj
          split at hj
          · exact hj
          · cases hj)
        exact this) (by rw [bvs_length, hlen]; exact hc1) (by rw [bvs_length, hlen]; exact hc2) (bvs_one _)
      rw [ha, Nat.mul_one] at hrun
      rw [bvs_length, hlen] at hcp
      exact ⟨_, _, E, .inl (hrun hcp), by rw [rep]; rfl, O⟩
def convAllK (tb : TypeId → Option TI) (hg : Nat → Option Ent) (p : Nat) (o : Oper) (S T : TypeId) (x : AV) (K : KF) : Prop := match tb S with
  | none => False
  | some si => match tb T with
    | none => False
    | some ti => match si.u with
      | .string => match ti.u with
        | .slice El => match tb El with
          | none => False
          | some ei => match ei.u with
            | .int .u8 => match x with
              | .val (.string s) => rowK hg p o s.size (.bytes s.data.toList) fun Φ v us => K ((s.size ≤ 140737488355328) ∧ Φ) v us
              | _ => False
            | _ => False
        | _ => False
      | .slice El => match ti.u with
        | .string => match tb El with
          | none => False
          | some ei => match ei.u with
            | .int .u8 => bytesK hg x fun Ψ l => K Ψ (.val (.string (strOf l))) []
            | _ => False
        | _ => False
      | .int _ => convK tb S T x K
      | _ => False
theorem convAll_sound {tb : TypeId → Option TI} (htb : TbOk P tb) {p : Nat} {S T : TypeId} {x : Operand} (ho : o.op = .convert S T x) {K : KF} (h : convAllK tb hg p o S T (ev x) K) : ∃ Φ v us, K Φ v us ∧ Snd P o ev hg Φ v us := by
  unfold convAllK at h
  split at h
  · exact h.elim
  rename_i si hsi
  split at h
  · exact h.elim
  rename_i ti hti
  have hS := (htb S si hsi).u
  have hT := (htb T ti hti).u
  split at h
  · rename_i hu
    repeat' (split at h; rotate_left; (try exact h.elim))
    all_goals (try exact h.elim)
    rename_i _ El hu2 _ ei hei _ hk _ s hx
    rw [hu] at hS; rw [hu2] at hT
    have hS' : P.underlying S = some .string := hS
    have hT' : P.underlying T = some (.slice El) := hT
    have hE := (htb El ei hei).u
    rw [hk] at hE
    have hE' : P.underlying El = some (.int .u8) := hE
    unfold rowK at h
    split at h
    · exact h.elim
    rename_i d hd
    split at h
    · exact h.elim
    rename_i e he
    refine ⟨_, _, _, h, fun q E H w ρv hr hh hops => ?_⟩
    have hsz : s.size ≤ maxLen := by have := q.1; unfold maxLen; omega
    have hv := hops x (by rw [ho]; simp [opnds])
    rw [hx] at hv
    have hv := rep_val hv
    have hrun := Lib.run_convert_string_bytes (P := P) w S T El s hS' hT' hE'
    have hnew := Lib.bytesWorld_at_new w El s
    have hsize := Lib.bytesWorld_size w El s
    have hge := grownCap_ge w s.size 0 El
    have hcm := grownCap_le_maxLen w s.size 0 El hsz
    have hcs : (Lib.bytesCells w El s).size = grownCap w s.size 0 El := by
      have hsd : s.data.size = s.size := rfl
      simp only [Lib.bytesCells, Array.size_append, Array.size_map, Array.size_replicate]; omega
    refine ⟨.slice (some ⟨w.heap.size, 0, none⟩) s.size (grownCap w s.size 0 El), Lib.bytesWorld w El s, E.set (p + d) w.heap.size (e.ver + 1), .inl (by unfold execOp; simp only [ho, hv, Sem.run_bind, hrun, Sem.run_pure, Result.andThen_ok]), ?_, Out.one hr (hh _ _ he) (.inr (by omega)) (.inr (Nat.le_refl _)) ?_ ?_ ?_ (by omega) (fun k hk _ => Lib.bytesWorld_at_old w El s k hk) (fun cur T3 fz h11 => ?_) (fun X => ⟨fun _ => ⟨_, _, _, _, hnew, .inr (Nat.le_refl _), ?_, fun i ys hy => ?_⟩⟩)⟩
    · rw [rep, Env.set_ver, Env.set_ρ]
      refine ⟨Nat.le_refl _, fun _ => ⟨_, _, rfl, hge, hcm, (fun h => by cases h), .inr ⟨Env.set_abs _ _ _ _, by rw [Nat.zero_mul], _, _, _, hnew, ?_⟩⟩⟩
      rw [hcs]; simp [Bd.sz]
    · simp [Lib.bytesWorld, World.freeze, World.alloc, World.drew, -World.alloc_eq, -World.drew_eq]
    · simp [Lib.bytesWorld, World.freeze, World.alloc, World.drew, -World.alloc_eq, -World.drew_eq]
    · simp [Lib.bytesWorld, World.freeze, World.alloc, World.drew, -World.alloc_eq, -World.drew_eq]
    · have := (Array.getElem?_eq_some_iff.1 h11).1; omega
    · rw [hcs]
      have : s.data.toList.length = s.size := by simp
      simp only [Bd.count, Bd.sz, Nat.mul_one, this]; exact hge
    · simp only [Bd.at, Option.map_eq_some_iff] at hy
      obtain ⟨b, hb, rfl⟩ := hy
      refine ⟨[bv b], rfl, by simp only [reps, rep]; exact ⟨_, _, rfl, rfl, rfl⟩, fun j u hu => ?_⟩
      cases j with
      | zero =>
        simp at hu; subst hu
        have hlt := (List.getElem?_eq_some_iff.1 hb).1
        simp only [Bd.sz, Nat.mul_one, Nat.add_zero, Lib.bytesCells]
        rw [Array.getElem?_append_left (by simpa using hlt)]
        simp only [Array.getElem?_map]
        have : s.data[i]? = some b := by simpa using hb
        rw [this]; rfl
      | succ j => simp at hu
  · rename_i El hu
    repeat' (split at h; rotate_left; (try exact h.elim))
    all_goals (try exact h.elim)
    rename_i _ hu2 _ ei hei _ hk
    rw [hu] at hS; rw [hu2] at hT
    have hS' : P.underlying S = some (.slice El) := hS
    have hT' : P.underlying T = some .string := hT
    have hE := (htb El ei hei).u
    rw [hk] at hE
    have hE' : P.underlying El = some (.int .u8) := hE
    obtain ⟨Ψ, l, h, hl⟩ := bytesK_sound h
    refine ⟨_, _, _, h, Snd.pure fun q E H w ρv hr hh hops => ?_⟩
    have hv := hops x (by rw [ho]; simp [opnds])
    have hrun := run_bytes_str hT' hS' hE' (hl q E H w _ hr hh hv)
    refine ⟨_, ?_, by rw [rep]⟩
    unfold execOp; simp only [ho, Sem.run_bind, hrun, Sem.run_pure, Result.andThen_ok]
  · exact conv_sound htb ho h
  · exact h.elim

/-- every operation that is no call of a Go function -/
def stepK (tb : TypeId → Option TI) (p : Nat) (o : Oper) (ev : Operand → AV) (hg : Nat → Option Ent) (K : KF) : Prop := match o.op with
  | .move x => K True (ev x) []
  | .assign x => K True (ev x) []
  | .alloc T => allocK tb hg p o T K
  | .box _ x => boxK hg p o (ev x) K
  | .build T ps => buildK tb hg T (ps.toList.map fun q => (q.1, ev q.2)) K
  | .buildSlice T n ps => buildSliceK tb hg p o T n (ps.toList.map fun q => (q.1, ev q.2)) K
  | .load T x => loadK tb hg T (ev x) K
  | .store T x y => storeK tb hg T (ev x) (ev y) K
  | .nilCheck x => nilK hg (ev x) K
  | .binOp op T x y _ => binK tb hg op T (ev x) (ev y) K
  | .unOp op _ x => unK op (ev x) K
  | .convert S T x => convAllK tb hg p o S T (ev x) K
  | .makeFunc fn first caps => match fn with
    | .func f => match first.toList with
      | [] => K True (.clo f (caps.toList.map ev)) []
      | _ => False
    | _ => False
  | .makeSlice T x y => makeSliceK tb hg p o T (ev x) (ev y) K
  | .slice T x lo hi mx => match mx with
    | none => sliceK tb hg T (ev x) (lo.map ev) (hi.map ev) K
    | some m => match hi with
      | some h => slice3K tb hg T (ev x) (lo.map ev) (ev h) (ev m) K
      | none => False
  | .fieldAddr T x k => fieldAddrK tb hg T (ev x) k K
  | .field T x k => fieldK tb T (ev x) k K
  | .indexAddr T x y => indexAddrK tb hg T (ev x) (ev y) K
  | .index T x y => indexK tb T (ev x) (ev y) K
  | .extract x i => extractK (ev x) i K
  | .call c => match c.callee with
    | .builtin b => match b with
      | .len => match c.args.toList with
        | [x] => match c.argTypes.toList with
          | [T] => lenK (hg := hg) tb T (ev x) K
          | _ => False
        | _ => False
      | .append => match c.args.toList with
        | [s, x] => match c.argTypes.toList with
          | [T, Tx] => appK tb hg p o T Tx (ev s) (ev x) K
          | _ => False
        | _ => False
      | .copy => match c.args.toList with
        | [x, y] => match c.argTypes.toList with
          | [T, _] => copyK tb hg T (ev x) (ev y) K
          | _ => False
        | _ => False
      | .min => match c.args.toList with
        | [x, y] => min2K false (ev x) (ev y) K
        | _ => False
      | .max => match c.args.toList with
        | [x, y] => min2K true (ev x) (ev y) K
        | _ => False
      | _ => False
    | _ => False
  | _ => False
theorem stepK_sound {tb : TypeId → Option TI} (htb : TbOk P tb) {p : Nat} {K : KF} (h : stepK tb p o ev hg K) : ∃ Φ v us, K Φ v us ∧ Snd P o ev hg Φ v us := by
  unfold stepK at h
  split at h
  case h_1 x ho => exact move_sound (.inl ho) h
  case h_2 x ho => exact move_sound (.inr ho) h
  case h_3 T ho => exact alloc_sound htb ho h
  case h_4 T x ho => exact box_sound ho h
  case h_5 T ps ho => exact build_sound htb ho h
  case h_6 T n ps ho => exact buildSlice_sound htb ho h
  case h_7 T x ho => exact load_sound htb ho h
  case h_8 T x y ho => exact store_sound htb ho h
  case h_9 x ho => exact nil_sound ho h
  case h_10 op T x y T' ho => exact bin_sound htb ho h
  case h_11 op T x ho => exact un_sound ho h
  case h_12 S T x ho => exact convAll_sound htb ho h
  case h_13 fn first caps ho =>
    split at h
    · split at h
      · rename_i f hf
        have : first = #[] := by cases first; simp_all
        subst this
        exact makeFunc_sound ho h
      · exact h.elim
    · exact h.elim
  case h_14 T x y ho => exact makeSlice_sound htb ho h
  case h_15 T x lo hi mx ho =>
    split at h
    · exact slice_sound htb ho h
    · split at h
      · exact slice3_sound htb ho h
      · exact h.elim
  case h_16 T x k ho => exact fieldAddr_sound htb ho h
  case h_17 T x k ho => exact field_sound htb ho h
  case h_18 T x y ho => exact indexAddr_sound htb ho h
  case h_19 T x y ho => exact index_sound htb ho h
  case h_20 x i ho => exact extract_sound ho h
  case h_21 c ho =>
    obtain ⟨cal, args, ts⟩ := c
    have ea : ∀ {α : Type} {a : Array α} {l : List α}, a.toList = l → a = l.toArray := by intro α a l h; cases a; simp_all
    simp only at h
    split at h
    rotate_left
    · exact h.elim
    split at h
    · split at h
      · rename_i ha
        split at h
        · rename_i ht
          exact len_sound htb (by rw [ho, ea ha, ea ht]) h
        · exact h.elim
      · exact h.elim
    · split at h
      · rename_i ha
        split at h
        · rename_i ht
          exact app_sound htb (by rw [ho, ea ha, ea ht]) h
        · exact h.elim
      · exact h.elim
    · split at h
      · rename_i ha
        split at h
        · rename_i ht
          exact copy_sound htb (by rw [ho, ea ha, ea ht]) h
        · exact h.elim
      · exact h.elim
    · split at h
      · rename_i ha
        exact min2_sound (mx := false) (ts := ts) (by rw [ho, ea ha]; rfl) h
      · exact h.elim
    · split at h
      · rename_i ha
        exact min2_sound (mx := true) (ts := ts) (by rw [ho, ea ha]; rfl) h
      · exact h.elim
    · exact h.elim
  all_goals exact h.elim
end
end Go.Proofs.Ytjfenbkhgamidaa
