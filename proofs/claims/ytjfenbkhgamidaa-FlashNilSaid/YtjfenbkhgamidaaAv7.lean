/- Abstract values: operations that write or make memory. Conditions: what 'TIok' says of the types. -/
import Derived.Test.YtjfenbkhgamidaaAv6
namespace Go.Proofs.Ytjfenbkhgamidaa
open Go.RowKit
set_option linter.unusedVariables false
section
variable {P : Program} {o : Oper} {ev : Operand → AV} {hg : Nat → Option Ent}
/-- the cells of a value -/
def flatA : AV → List AV
  | .agg l => l
  | x => [x]
/-- surely a value of one cell -/
def oneA (hg : Nat → Option Ent) : AV → Prop
  | .val v => v.oneCell' = true
  | .bs _ _ => True
  | .sl _ _ _ _ _ => True
  | .cp _ _ _ => True
  | .clo _ _ => True
  | .own r ver _ _ _ => curK hg r ver fun Φ => Φ
  | .ref r ver _ _ _ => curK hg r ver fun Φ => Φ
  | _ => False
def onesA (hg : Nat → Option Ent) : List AV → Prop
  | [] => True
  | x :: xs => oneA hg x ∧ onesA hg xs
theorem oneA_sound {x : AV} (h : oneA hg x) {E : Env} {H : List Ent} {w : World} (hr : HR E w H) (hh : ∀ (r : Nat) (e : Ent), hg r = some e → H[r]? = some e) {v : Value} (hv : rep E w x v) : v.oneCell' = true := by
  cases x <;> simp only [oneA] at h <;> rw [rep] at hv
  case val u => rw [hv]; exact h
  case bs z l => obtain ⟨a, n, c, rfl, _⟩ := hv; rfl
  case sl => obtain ⟨a, n, c, rfl, _⟩ := hv; rfl
  case own r ver sz off n =>
    obtain ⟨Φ, h1, h2⟩ := curK_sound h
    obtain ⟨a, c, rfl, _⟩ := hv.2 (h2 h1 E H w hr hh); rfl
  case ref r ver sz i j =>
    obtain ⟨Φ, h1, h2⟩ := curK_sound h
    rw [hv.2 (h2 h1 E H w hr hh)]; rfl
  case cp => obtain ⟨b, o', cs, rfl, _⟩ := hv; rfl
  case clo => obtain ⟨cs, rfl, _⟩ := hv; rfl
theorem onesA_sound : ∀ {xs : List AV} (h : onesA hg xs) {E : Env} {H : List Ent} {w : World} (hr : HR E w H) (hh : ∀ (r : Nat) (e : Ent), hg r = some e → H[r]? = some e) {vs : List Value} (hv : reps E w xs vs), ∀ u ∈ vs, u.oneCell' = true
  | [], _, E, H, w, hr, hh, vs, hv => by rw [reps] at hv; subst hv; simp
  | x :: xs, h, E, H, w, hr, hh, vs, hv => by
    rw [reps] at hv
    obtain ⟨v, vs', rfl, h1, h2⟩ := hv
    intro u hu
    rcases List.mem_cons.1 hu with rfl | hu
    · exact oneA_sound h.1 hr hh h1
    · exact onesA_sound h.2 hr hh h2 u hu
theorem flat_rep {x : AV} (h : onesA hg (flatA x)) {E : Env} {H : List Ent} {w : World} (hr : HR E w H) (hh : ∀ (r : Nat) (e : Ent), hg r = some e → H[r]? = some e) {v : Value} (hv : rep E w x v) :
    reps E w (flatA x) v.cells.toList ∧ ∀ u ∈ v.cells.toList, u.oneCell' = true := by
  have key : reps E w (flatA x) v.cells.toList := by
    cases x with
    | agg l =>
      rw [rep] at hv
      obtain ⟨cs, rfl, h1⟩ := hv
      simpa [flatA, Value.cells] using h1
    | _ =>
      have h1 : v.oneCell' = true := oneA_sound h.1 hr hh hv
      have : v.cells.toList = [v] := by cases v <;> simp_all [Value.oneCell', Value.cells]
      rw [this]
      simp only [flatA, reps]
      exact ⟨v, [], rfl, hv, rfl⟩
  exact ⟨key, onesA_sound h hr hh key⟩
theorem reps_append {E : Env} {w : World} : ∀ {xs ys : List AV} {us vs : List Value}, reps E w xs us → reps E w ys vs → reps E w (xs ++ ys) (us ++ vs)
  | [], ys, us, vs, h, h' => by rw [reps] at h; subst h; exact h'
  | x :: xs, ys, us, vs, h, h' => by
    rw [reps] at h
    obtain ⟨v, vs', rfl, h1, h2⟩ := h
    simp only [List.cons_append, reps]
    exact ⟨v, _, rfl, h1, reps_append h2 h'⟩
def putA (l : List AV) (j : Nat) (new : List AV) : List AV := takeL l j ++ (new ++ dropL l (j + new.length))
theorem reps_put {E : Env} {w : World} {xs new : List AV} {us vs : List Value} (j : Nat) (h : reps E w xs us) (h' : reps E w new vs) : reps E w (putA xs j new) (us.take j ++ (vs ++ us.drop (j + vs.length))) := by
  unfold putA
  rw [takeL_eq, dropL_eq, (reps_get h').1]
  exact reps_append (reps_take j h) (reps_append h' (reps_drop _ h))
/-- a store into an element of a row -/
theorem Out.store {E : Env} {w : World} {H : List Ent} (hr : HR E w H) {r : Nat} {e : Ent} (he : H[r]? = some e) {i j : Nat} {ys new : List AV} {vs : List Value} (hat : e.bd.at i = some ys) {bd' : Bd} (hsz : bd'.sz = e.bd.sz) (hct : bd'.count = e.bd.count)
    (hbd : ∀ i' ys', bd'.at i' = some ys' → (i' = i ∧ ys' = putA ys j new) ∨ (i' ≠ i ∧ e.bd.at i' = some ys')) (hnew : reps E w new vs) (hfit : j + new.length ≤ e.bd.sz) :
    Out E E w (w.setCells (E.ρ r) (i * e.bd.sz + j) vs) H [(r, ⟨e.ver, bd'⟩)] := by
  have hl : e.bd.live = true := by cases hb : e.bd <;> simp [Bd.live] <;> simp [hb, Bd.at] at hat
  have hna : ¬ E.abs r := fun q => by have := hr.abs r e he q; have := Bd.at_lt hat; omega
  obtain ⟨cur, T, lo, hi, h1, h2, h3, h4⟩ := (hr.ent r e he ⟨hl, hna⟩).blk hl
  obtain ⟨hch, hs⟩ := setCells_ch (E.ρ r) vs (i * e.bd.sz + j) w
  have hvl : new.length = vs.length := (reps_get hnew).1
  have hlt := Bd.at_lt hat
  have hfit2 : i * e.bd.sz + j + vs.length ≤ cur.size := by
    have h5 : (i + 1) * e.bd.sz ≤ e.bd.count * e.bd.sz := Nat.mul_le_mul_right _ hlt
    rw [Nat.add_mul, Nat.one_mul] at h5
    omega
  have hrow := heap_setCells_row w (E.ρ r) T (lo, hi) vs (i * e.bd.sz + j) cur h1 hfit2
  have hsame : E.set r (E.ρ r) e.ver = E := Env.set_same E rfl (hr.ver r e he).symm hna
  have := Out.one (w' := w.setCells (E.ρ r) (i * e.bd.sz + j) vs) (bd' := bd') (b := E.ρ r) (v' := e.ver) hr he (.inl ⟨rfl, rfl, hna⟩) (.inl ⟨rfl, hl, hna⟩) hch.os hch.tape hch.output (by omega) (fun k hk hne => hch.block k hk hne) ?_ ?_
  · rw [hsame] at this; exact this
  · intro cur2 T2 fz2 h6
    rw [h1] at h6
    cases h6
    exact ⟨_, _, _, hrow, by simp; omega⟩
  · intro X
    rw [hsame] at X ⊢
    refine ⟨fun _ => ⟨_, _, _, _, hrow, ?_, ?_, ?_⟩⟩
    · rcases h2 with h | h
      · exact .inl h
      · refine .inr ?_
        simp only [List.size_toArray, List.length_append, List.length_take, List.length_drop, Array.length_toList]
        omega
    · rw [hsz, hct]
      simp only [List.size_toArray, List.length_append, List.length_take, List.length_drop, Array.length_toList]
      omega
    · intro i' ys' hy'
      rw [hsz]
      have hcl : cur.toList.length = cur.size := by simp
      rcases hbd i' ys' hy' with ⟨rfl, rfl⟩ | ⟨hne, hy2⟩
      · obtain ⟨cs, h5, h6, h7⟩ := h4 i' ys hat
        refine ⟨cs.take j ++ (vs ++ cs.drop (j + vs.length)), ?_, reps_ext X _ _ (reps_put j h6 hnew), ?_⟩
        · simp only [List.length_append, List.length_take, List.length_drop]; omega
        · intro k u hu
          simp only [List.getElem?_toArray, List.getElem?_append, List.getElem?_take, List.getElem?_drop, List.length_take, List.length_append, Array.length_toList] at hu ⊢
          by_cases hkj : k < j
          · have a1 : k < min j cs.length := by omega
            have a2 : i' * e.bd.sz + k < min (i' * e.bd.sz + j) cur.size := by omega
            have a3 : i' * e.bd.sz + k < min (i' * e.bd.sz + j) cur.size + vs.length := by omega
            have a4 : i' * e.bd.sz + k < i' * e.bd.sz + j := by omega
            simp only [a1, if_true, hkj] at hu
            simp only [a2, a3, a4, if_true]
            have := h7 k u hu
            simpa using this
          · by_cases hkm : k < j + vs.length
            · have a1 : ¬ k < min j cs.length := by omega
              have a2 : ¬ i' * e.bd.sz + k < min (i' * e.bd.sz + j) cur.size := by omega
              have a3 : i' * e.bd.sz + k < min (i' * e.bd.sz + j) cur.size + vs.length := by omega
              have a5 : k - min j cs.length < vs.length := by omega
              have a6 : i' * e.bd.sz + k - min (i' * e.bd.sz + j) cur.size = k - min j cs.length := by omega
              simp only [a1, a5, if_true, if_false] at hu
              simp only [a2, a3, if_true, if_false, a6]
              exact hu
            · have a1 : ¬ k < min j cs.length := by omega
              have a3 : ¬ i' * e.bd.sz + k < min (i' * e.bd.sz + j) cur.size + vs.length := by omega
              have a5 : ¬ k - min j cs.length < vs.length := by omega
              simp only [a1, a5, if_false] at hu
              simp only [a3, if_false]
              have e1 : j + vs.length + (k - min j cs.length - vs.length) = k := by omega
              rw [e1] at hu
              have e2 : i' * e.bd.sz + j + vs.length + (i' * e.bd.sz + k - (min (i' * e.bd.sz + j) cur.size + vs.length)) = i' * e.bd.sz + k := by omega
              rw [e2]
              have := h7 k u hu
              simpa using this
      · obtain ⟨cs, h5, h6, h7⟩ := h4 i' ys' hy2
        refine ⟨cs, h5, reps_ext X _ _ h6, fun k u hu => ?_⟩
        have hk : k < e.bd.sz := by have := (List.getElem?_eq_some_iff.1 hu).1; omega
        have hlt' := Bd.at_lt hy2
        have hb : i' * e.bd.sz + k < cur.size := by
          have h5 : (i' + 1) * e.bd.sz ≤ e.bd.count * e.bd.sz := Nat.mul_le_mul_right _ hlt'
          rw [Nat.add_mul, Nat.one_mul] at h5
          omega
        have hout : i' * e.bd.sz + k < i * e.bd.sz + j ∨ i * e.bd.sz + j + vs.length ≤ i' * e.bd.sz + k := by
          rcases Nat.lt_or_gt_of_ne hne with h | h
          · left
            have h5 : (i' + 1) * e.bd.sz ≤ i * e.bd.sz := Nat.mul_le_mul_right _ h
            rw [Nat.add_mul, Nat.one_mul] at h5
            omega
          · right
            have h5 : (i + 1) * e.bd.sz ≤ i' * e.bd.sz := Nat.mul_le_mul_right _ h
            rw [Nat.add_mul, Nat.one_mul] at h5
            omega
        have := h7 k u hu
        simp only [List.getElem?_toArray, List.getElem?_append, List.getElem?_take, List.getElem?_drop, List.length_take, List.length_append, Array.length_toList]
        rcases hout with h | h
        · have a2 : i' * e.bd.sz + k < min (i * e.bd.sz + j) cur.size := by omega
          have a3 : i' * e.bd.sz + k < min (i * e.bd.sz + j) cur.size + vs.length := by omega
          simp only [a2, a3, h, if_true]
          simpa using this
        · have a3 : ¬ i' * e.bd.sz + k < min (i * e.bd.sz + j) cur.size + vs.length := by omega
          simp only [a3, if_false]
          have e2 : i * e.bd.sz + j + vs.length + (i' * e.bd.sz + k - (min (i * e.bd.sz + j) cur.size + vs.length)) = i' * e.bd.sz + k := by omega
          rw [e2]
          simpa using this
/-! store -/
def storeK (tb : TypeId → Option TI) (hg : Nat → Option Ent) (T : TypeId) (x y : AV) (K : KF) : Prop := match tb T with
  | none => False
  | some ti => match x with
    | .ref r ver sz i j => match hg r with
      | none => False
      | some e => match e.bd with
        | .bytes l => match y with
          | .val (.int .u8 n) => K (ver = e.ver ∧ sz = 1 ∧ j = 0 ∧ i < l.length ∧ (0 ≤ n ∧ n ≤ 255) ∧ ti.sz = 1) .any [(r, ⟨e.ver, .bytes (l.set i (UInt8.ofNat n.toNat))⟩)]
          | _ => False
        | .row sz' f d l => ∃ y', K (ver = e.ver ∧ sz = sz' ∧ i < l.length ∧ onesA hg (flatA y) ∧ (flatA y).length = ti.sz ∧ j + ti.sz ≤ sz' ∧ f y' = putA (f (l.getD i d)) j (flatA y)) .any [(r, ⟨e.ver, .row sz' f d (l.set i y')⟩)]
        | .obj l => K (ver = e.ver ∧ i = 0 ∧ onesA hg (flatA y) ∧ (flatA y).length = ti.sz ∧ j + ti.sz ≤ l.length) .any [(r, ⟨e.ver, .obj (putA l j (flatA y))⟩)]
        | .dead => False
    | _ => False
theorem store_run {T : TypeId} {ti : TI} (ht : TIok P T ti) {E : Env} {w : World} {H : List Ent} (hr : HR E w H) {r : Nat} {e : Ent} (he : H[r]? = some e) {i j : Nat} {ys new : List AV} (hat : e.bd.at i = some ys) {v : Value}
    (hnew : reps E w new v.cells.toList) (h1 : ∀ u ∈ v.cells.toList, u.oneCell' = true) (hn : new.length = ti.sz) (hfit : j + ti.sz ≤ e.bd.sz) :
    (storeVar T ⟨E.ρ r, i * e.bd.sz + j, none⟩ v).run P w = .ok () (w.setCells (E.ρ r) (i * e.bd.sz + j) v.cells.toList) := by
  have hl : e.bd.live = true := by cases hb : e.bd <;> simp [Bd.live] <;> simp [hb, Bd.at] at hat
  have hna : ¬ E.abs r := fun q => by have := hr.abs r e he q; have := Bd.at_lt hat; omega
  obtain ⟨cur, T', lo, hi, h2, h3, h4, h5⟩ := (hr.ent r e he ⟨hl, hna⟩).blk hl
  have hvl := (reps_get hnew).1
  have hlt := Bd.at_lt hat
  have hfit2 : i * e.bd.sz + j + ti.sz ≤ cur.size := by
    have h5 : (i + 1) * e.bd.sz ≤ e.bd.count * e.bd.sz := Nat.mul_le_mul_right _ hlt
    rw [Nat.add_mul, Nat.one_mul] at h5
    omega
  exact run_storeVar_at (n := ti.sz) (fun w => ht.sizeOf w) h2 h3 rfl (by omega) hfit2 h1
theorem store_sound {tb : TypeId → Option TI} (htb : TbOk P tb) {T : TypeId} {x y : Operand} (ho : o.op = .store T x y) {K : KF} (h : storeK tb hg T (ev x) (ev y) K) : ∃ Φ v us, K Φ v us ∧ Snd P o ev hg Φ v us := by
  unfold storeK at h
  split at h
  · exact h.elim
  rename_i ti hti
  have ht := htb T ti hti
  split at h
  rotate_left
  · exact h.elim
  rename_i r ver sz i j hx
  split at h
  · exact h.elim
  rename_i e he
  have fin : ∀ {Φ : Prop} {bd' : Bd}, K Φ .any [(r, ⟨e.ver, bd'⟩)] → (Φ → ver = e.ver ∧ i * sz = i * e.bd.sz ∧ ∃ ys, e.bd.at i = some ys ∧ bd'.sz = e.bd.sz ∧ bd'.count = e.bd.count ∧ j + ti.sz ≤ e.bd.sz ∧ ∃ new, new.length = ti.sz ∧
      (∀ (E : Env) (H : List Ent) (w : World) (v : Value), HR E w H → (∀ (r : Nat) (e : Ent), hg r = some e → H[r]? = some e) → rep E w (ev y) v → reps E w new v.cells.toList ∧ ∀ u ∈ v.cells.toList, u.oneCell' = true) ∧
      (∀ i' ys', bd'.at i' = some ys' → (i' = i ∧ ys' = putA ys j new) ∨ (i' ≠ i ∧ e.bd.at i' = some ys'))) → ∃ Φ v us, K Φ v us ∧ Snd P o ev hg Φ v us := by
    intro Φ bd' hK hΦ
    refine ⟨Φ, _, _, hK, fun p E H w ρv hr hh hops => ?_⟩
    obtain ⟨p1, p2, ys, hat, hsz, hct, hfit, new, hnl, hnew, hbd⟩ := hΦ p
    have hvx := hops x (by rw [ho]; simp [opnds])
    have hvy := hops y (by rw [ho]; simp [opnds])
    obtain ⟨hn1, hn2⟩ := hnew E H w _ hr hh hvy
    rw [hx, rep] at hvx
    have hH := hh r e he
    have hpt := hvx.2 (p1.trans (hr.ver r e hH).symm)
    rw [p2] at hpt
    have hrun := store_run ht hr hH hat hn1 hn2 hnl hfit
    refine ⟨undef, _, E, .inr ⟨exec_store ho hpt rfl hrun, rfl⟩, by rw [rep]; trivial, Out.store hr hH hat hsz hct hbd hn1 (by omega)⟩
  have he' : e = ⟨e.ver, e.bd⟩ := rfl
  split at h
  · rename_i l hb
    split at h
    rotate_left
    · exact h.elim
    rename_i n hy
    refine fin h fun p => ?_
    obtain ⟨p1, p2, p3, p4, p5, p6⟩ := p
    refine ⟨p1, by rw [hb, p2]; rfl, [.val (bv (l.getD i 0))], ?_, by rw [hb]; rfl, by rw [hb]; simp [Bd.count], by rw [hb, p3, p6]; simp [Bd.sz], [.val (.int .u8 n)], by rw [p6]; rfl, ?_, ?_⟩
    · rw [hb]; simp [Bd.at, p4, List.getD]
    · intro E H w v hr hh hv
      rw [hy] at hv
      rw [rep_val hv]
      refine ⟨?_, by simp [Value.cells, Value.oneCell']⟩
      simp only [Value.cells, reps, rep]
      exact ⟨_, _, rfl, rfl, rfl⟩
    · intro i' ys' h'
      rw [hb]
      simp only [Bd.at, List.getElem?_set] at h' ⊢
      by_cases hi : i = i'
      · subst hi
        left
        simp only [if_true, p4, Option.map_some, Option.some.injEq] at h'
        refine ⟨rfl, ?_⟩
        rw [← h', p3]
        have e1 : ((UInt8.ofNat n.toNat).toNat : Int) = n := by simp; omega
        simp [putA, takeL, dropL, bv]; omega
      · right
        simp only [hi, if_false] at h'
        exact ⟨fun e => hi e.symm, h'⟩
  · rename_i sz' α f d l hb
    obtain ⟨y', h⟩ := h
    refine fin h fun p => ?_
    obtain ⟨p1, p2, p3, p4, p5, p6, p7⟩ := p
    refine ⟨p1, by rw [hb, p2]; rfl, f (l.getD i d), ?_, by rw [hb]; rfl, by rw [hb]; simp [Bd.count], by rw [hb]; exact p6, flatA (ev y), p5, ?_, ?_⟩
    · rw [hb]; simp [Bd.at, p3, List.getD]
    · exact fun E H w v hr hh hv => flat_rep p4 hr hh hv
    · intro i' ys' h'
      rw [hb]
      simp only [Bd.at, List.getElem?_set] at h' ⊢
      by_cases hi : i = i'
      · subst hi
        left
        simp only [if_true, p3, Option.map_some, Option.some.injEq] at h'
        exact ⟨rfl, by rw [← h', p7]⟩
      · right
        simp only [hi, if_false] at h'
        exact ⟨fun e => hi e.symm, h'⟩
  · rename_i l hb
    refine fin h fun p => ?_
    obtain ⟨p1, p2, p4, p5, p6⟩ := p
    have hlen : (putA l j (flatA (ev y))).length = l.length := by
      unfold putA
      rw [takeL_eq, dropL_eq]
      simp only [List.length_append, List.length_take, List.length_drop]; omega
    refine ⟨p1, by rw [p2]; simp, l, by rw [hb, p2]; rfl, by rw [hb]; exact hlen, by rw [hb]; rfl, by rw [hb]; exact p6, flatA (ev y), p5, fun E H w v hr hh hv => flat_rep p4 hr hh hv, ?_⟩
    intro i' ys' h'
    rw [hb]
    simp only [Bd.at] at h' ⊢
    split at h'
    · rename_i hi
      left
      exact ⟨by rw [hi, p2], (Option.some.inj h').symm⟩
    · cases h'
  · exact h.elim

/-! new rows -/
theorem Out.new {E : Env} {w : World} {H : List Ent} (hr : HR E w H) {r : Nat} {e : Ent} (he : H[r]? = some e) {bd' : Bd} {cs : List Value} {T : TypeId} (hct : bd'.count * bd'.sz ≤ cs.length)
    (hat : ∀ i ys, bd'.at i = some ys → ∃ us, us.length = bd'.sz ∧ reps E w ys us ∧ ∀ j u, us[j]? = some u → cs[i * bd'.sz + j]? = some u) :
    Out E (E.set r w.heap.size (e.ver + 1)) w (w.alloc (.cells cs.toArray T)) H [(r, ⟨e.ver + 1, bd'⟩)] := by
  refine Out.one hr he (.inr (by omega)) (.inr (Nat.le_refl _)) rfl rfl rfl (by simp) (fun k hk _ => Below.heap_alloc _ _ _ hk) (fun cur T fz h => ?_) (fun X => ⟨fun _ => ⟨_, T, 0, 0, heap_alloc_new w _, .inl (Nat.le_refl _), by simpa using hct, fun i ys hy => ?_⟩⟩)
  · have := (Array.getElem?_eq_some_iff.1 h).1; omega
  · obtain ⟨us, h1, h2, h3⟩ := hat i ys hy
    exact ⟨us, h1, reps_ext X _ _ h2, fun j u hu => by simpa using h3 j u hu⟩
/-- a new variable -/
def newK (hg : Nat → Option Ent) (p : Nat) (o : Oper) (cells : List AV) (K : KF) : Prop := match o.dst with
  | none => False
  | some d => match hg (p + d) with
    | none => False
    | some e => K True (.ref (p + d) (e.ver + 1) cells.length 0 0) [(p + d, ⟨e.ver + 1, .obj cells⟩)]
theorem new_sound {p : Nat} {cells : List AV} {K : KF} (h : newK hg p o cells K) (hrun : ∀ (E : Env) (H : List Ent) (w : World) (ρv : Operand → Value), HR E w H → (∀ (r : Nat) (e : Ent), hg r = some e → H[r]? = some e) → (∀ x ∈ opnds o.op, rep E w (ev x) (ρv x)) →
    ∃ cs T, reps E w cells cs ∧ (execOp ρv o).run P w = .ok (.value (.pointer (some ⟨w.heap.size, 0, none⟩))) (w.alloc (.cells cs.toArray T))) : ∃ Φ v us, K Φ v us ∧ Snd P o ev hg Φ v us := by
  unfold newK at h
  split at h
  · exact h.elim
  rename_i d hd
  split at h
  · exact h.elim
  rename_i e he
  refine ⟨_, _, _, h, fun p' E H w ρv hr hh hops => ?_⟩
  obtain ⟨cs, T, h1, h2⟩ := hrun E H w ρv hr hh hops
  have hl := (reps_get h1).1
  refine ⟨_, _, _, .inl h2, ?_, Out.new (T := T) (cs := cs) hr (hh _ _ he) (by simp [Bd.count, Bd.sz, hl]) (fun i ys hy => ?_)⟩
  · rw [rep, Env.set_ver, Env.set_ρ]
    exact ⟨Nat.le_refl _, fun _ => by simp⟩
  · simp only [Bd.at] at hy
    split at hy
    · rename_i hi
      subst hi
      cases hy
      exact ⟨cs, hl.symm, h1, fun j u hu => by simpa using hu⟩
    · cases hy
def allocK (tb : TypeId → Option TI) (hg : Nat → Option Ent) (p : Nat) (o : Oper) (T : TypeId) (K : KF) : Prop := match tb T with
  | none => False
  | some ti => newK hg p o (ti.zero.map .val) K
theorem reps_vals {E : Env} {w : World} : ∀ (l : List Value), reps E w (l.map .val) l
  | [] => by simp [reps]
  | v :: l => by simp only [List.map_cons, reps, rep]; exact ⟨v, l, rfl, rfl, reps_vals l⟩
theorem alloc_sound {tb : TypeId → Option TI} (htb : TbOk P tb) {p : Nat} {T : TypeId} (ho : o.op = .alloc T) {K : KF} (h : allocK tb hg p o T K) : ∃ Φ v us, K Φ v us ∧ Snd P o ev hg Φ v us := by
  unfold allocK at h
  split at h
  · exact h.elim
  rename_i ti hti
  obtain ⟨z, hz, hzc⟩ := (htb T ti hti).info
  obtain ⟨i, hi, h1, h2, h3⟩ := info_parts hz
  refine new_sound h fun E H w ρv hr hh hops => ⟨ti.zero, T, reps_vals _, ?_⟩
  have e : z.cells = ti.zero.toArray := by rw [← hzc]
  unfold execOp
  simp [ho, Instr.alloc, zeroValue, typeInfo, hi, h1, newVar, newRow, e]
def boxK (hg : Nat → Option Ent) (p : Nat) (o : Oper) (x : AV) (K : KF) : Prop := newK hg p o (flatA x) fun Φ v us => K (Φ ∧ onesA hg (flatA x)) v us
theorem box_sound {p : Nat} {T : TypeId} {x : Operand} (ho : o.op = .box T x) {K : KF} (h : boxK hg p o (ev x) K) : ∃ Φ v us, K Φ v us ∧ Snd P o ev hg Φ v us := by
  unfold boxK newK at h
  split at h
  · exact h.elim
  rename_i d hd
  split at h
  · exact h.elim
  rename_i e he
  refine ⟨_, _, _, h, fun p' E H w ρv hr hh hops => ?_⟩
  have hv := hops x (by rw [ho]; simp [opnds])
  obtain ⟨h1, _⟩ := flat_rep p'.2 hr hh hv
  have hl := (reps_get h1).1
  refine ⟨.pointer (some ⟨w.heap.size, 0, none⟩), w.alloc (.cells (ρv x).cells T), E.set (p + d) w.heap.size (e.ver + 1), .inl ?_, ?_, ?_⟩
  · unfold execOp
    simp [ho, Instr.box, newVar, newRow]
  · rw [rep, Env.set_ver, Env.set_ρ]
    exact ⟨Nat.le_refl _, fun _ => by simp⟩
  · have := Out.new (T := T) (cs := (ρv x).cells.toList) (bd' := .obj (flatA (ev x))) hr (hh _ _ he) (by simp [Bd.count, Bd.sz, hl]) (fun i ys hy => by
      simp only [Bd.at] at hy
      split at hy
      · rename_i hi
        subst hi
        cases hy
        exact ⟨_, hl.symm, h1, fun j u hu => by simpa using hu⟩
      · cases hy)
    simpa using this
end
end Go.Proofs.Ytjfenbkhgamidaa
