/- Abstract values: append, make, literals. Conditions: what 'TIok' says of the types. -/
import Derived.Test.YtjfenbkhgamidaaAv7
import Derived.Great.BuildSlice
namespace Go.Proofs.Ytjfenbkhgamidaa
open Go.RowKit
set_option linter.unusedVariables false
section
variable {P : Program} {o : Oper} {ev : Operand → AV} {hg : Nat → Option Ent}
def Env.setAbs (E : Env) (r v : Nat) : Env := { E with ver := fun k => if k = r then v else E.ver k, abs := fun k => if k = r then True else E.abs k }
/-- a row without elements, and without a block -/
theorem Out.absent {E : Env} {w : World} {H : List Ent} {r0 v' : Nat} {e0 : Ent} {bd' : Bd} (hr : HR E w H) (h0 : H[r0]? = some e0) (hv : e0.ver < v') (hc : bd'.count = 0) : Out E (E.setAbs r0 v') w w H [(r0, ⟨v', bd'⟩)] := by
  have hver := hr.ver r0 e0 h0
  have hlt0 : r0 < H.length := (List.getElem?_eq_some_iff.1 h0).1
  have v1 : (E.setAbs r0 v').ver r0 = v' := by simp [Env.setAbs]
  have v2 : ∀ r, r ≠ r0 → (E.setAbs r0 v').ver r = E.ver r := fun r h => by simp [Env.setAbs, h]
  have a1 : (E.setAbs r0 v').abs r0 := by simp [Env.setAbs]
  have a2 : ∀ r, r ≠ r0 → ((E.setAbs r0 v').abs r ↔ E.abs r) := fun r h => by simp [Env.setAbs, h]
  have X : Ext E (E.setAbs r0 v') w w := by
    refine ⟨fun r => ?_, fun r e => rfl, fun r e => ?_, fun z c h => h, fun z c hz => rfl, fun r e cur T fz hc => ⟨cur, T, fz, hc, Nat.le_refl _⟩⟩
    · by_cases h : r = r0
      · subst h; omega
      · rw [v2 r h]; exact Nat.le_refl _
    · by_cases h : r = r0
      · subst h; omega
      · exact a2 r h
  have hget : ∀ (r : Nat) (e : Ent), (updH H [(r0, ⟨v', bd'⟩)])[r]? = some e → r = r0 ∧ e = ⟨v', bd'⟩ ∨ r ≠ r0 ∧ H[r]? = some e := by
    intro r e h
    simp only [updH, setL_eq] at h
    by_cases hrr : r = r0
    · subst hrr; rw [List.getElem?_set_self hlt0] at h; exact .inl ⟨rfl, (Option.some.inj h).symm⟩
    · rw [List.getElem?_set_ne (Ne.symm hrr)] at h; exact .inr ⟨hrr, h⟩
  have hliv : ∀ (r : Nat) (e : Ent), (updH H [(r0, ⟨v', bd'⟩)])[r]? = some e → Liv (E.setAbs r0 v') r e → H[r]? = some e ∧ Liv E r e := by
    intro r e h hl
    rcases hget r e h with ⟨rfl, rfl⟩ | ⟨h1, h2⟩
    · exact absurd a1 hl.2
    · exact ⟨h2, hl.1, fun q => hl.2 ((a2 r h1).2 q)⟩
  refine ⟨X, ⟨?_, ?_, ?_, ?_, hr.zlt, ?_, ?_⟩, rfl, rfl, rfl, Nat.le_refl _, fun _ _ h => .inl h, fun _ cur T fz h => ⟨cur, T, fz, h, Nat.le_refl _⟩, fun _ _ _ => rfl, ?_⟩
  · intro r e h
    rcases hget r e h with ⟨rfl, rfl⟩ | ⟨h1, h2⟩
    · exact v1
    · rw [v2 r h1]; exact hr.ver r e h2
  · intro r e h hl
    obtain ⟨h1, h2⟩ := hliv r e h hl
    exact (hr.ent r e h1 h2).ext X rfl
  · intro r e h ha
    rcases hget r e h with ⟨rfl, rfl⟩ | ⟨h1, h2⟩
    · exact hc
    · exact hr.abs r e h2 ((a2 r h1).1 ha)
  · intro r r' e e' h h' hl hl' hρ
    obtain ⟨h1, h2⟩ := hliv r e h hl
    obtain ⟨h3, h4⟩ := hliv r' e' h' hl'
    exact hr.inj r r' e e' h1 h3 h2 h4 hρ
  · intro r e h hl z
    obtain ⟨h1, h2⟩ := hliv r e h hl
    exact hr.zrow r e h1 h2 z
  · intro r h
    simp only [updH, setL_eq, List.length_set] at h
    have hne : r ≠ r0 := by omega
    rw [v2 r hne, a2 r hne]
    exact hr.top r h
  · intro r e h hl
    obtain ⟨h1, h2⟩ := hliv r e h hl
    exact .inr ⟨rfl, e, h1, h2⟩
/-- what is appended to a row -/
theorem app_core {T Tx El ty : TypeId} {ei : TI} (hT : P.underlying T = some (.slice El)) (hE : TIok P El ei) {E : Env} {w : World} {H : List Ent} (hr : HR E w H) {r : Nat} {e : Ent} (he : H[r]? = some e) {ver sz n m : Nat} {v xv : Value}
    (hv : rep E w (.own r ver sz 0 n) v) (hver : ver = E.ver r) {news : List Value} (hs : Src P sz Tx xv m news w) {bd' : Bd} (hn : e.bd.count = n) (hsz : e.bd.sz = sz) (hsz0 : ei.sz = sz) (hl : e.bd.live = true) (hn' : bd'.count = n + m) (hsz' : bd'.sz = sz) (hl' : bd'.live = true)
    (hat : ∀ i ys, bd'.at i = some ys → (i < n ∧ e.bd.at i = some ys) ∨ (n ≤ i ∧ ∃ us, us.length = sz ∧ reps E w ys us ∧ ∀ j u, us[j]? = some u → news[(i - n) * sz + j]? = some u)) (hfull : ∀ i, i < n → ∃ ys, e.bd.at i = some ys)
    (hbytes : (n + m) * ei.bytes ≤ 140737488355328) (h63 : n + m ≤ maxLen) :
    ∃ cv w' E', (Builtin.append_ #[T, Tx] ty #[v, xv]).run P w = .ok cv w' ∧ rep E' w' (.own r (e.ver + 1) sz 0 (n + m)) cv ∧ Out E E' w w' H [(r, ⟨e.ver + 1, bd'⟩)] := by
  rw [rep] at hv
  obtain ⟨a, c, rfl, h1, h2, h3, h4⟩ := hv.2 hver
  obtain ⟨z, hz, hzc⟩ := hE.info
  obtain ⟨i, hi, hiz, hisz, hiby⟩ := info_parts hz
  have hsz1 : i.size = sz := by omega
  have hnl := hs.newsLen
  have hzz : z.cells.size = sz := by have := hE.zsz; rw [← hzc] at this; simp at this; omega
  have h63' : n + m ≤ 9223372036854775807 := by simpa [maxLen] using h63
  have hEver := hr.ver r e he
  -- the old cells
  have hold : ∃ xs : List Value, xs.length = n * sz ∧ (∀ w2 : World, (∀ k : Nat, w2.heap[k]? = w.heap[k]?) → (Builtin.firstCells sz n (.slice a n c)).run P w2 = .ok xs.toArray w2) ∧
      ∀ i' ys, e.bd.at i' = some ys → ∃ us, us.length = sz ∧ reps E w ys us ∧ ∀ j u, us[j]? = some u → xs[i' * sz + j]? = some u := by
    by_cases hc0 : c = 0
    · have hn0 : n = 0 := by omega
      subst hn0
      refine ⟨[], by simp, fun w2 _ => ?_, fun i' ys hy => ?_⟩
      · cases a with
        | none => exact run_firstCells_none w2 sz 0 0 c
        | some ad => exact run_firstCells_some w2 sz 0 ad 0 c [] (by simp) (fun j u h => by simp at h)
      · have := Bd.at_lt hy; omega
    · obtain ⟨hna, rfl, cur, T', fz, h5, h6⟩ := h4.resolve_left hc0
      obtain ⟨cur2, T2, lo, hi', h7, h8, h9, h10⟩ := (hr.ent r e he ⟨hl, hna⟩).blk hl
      rw [h5] at h7
      cases h7
      rw [hn, hsz] at h9
      refine ⟨cur.toList.take (n * sz), by simp; omega, fun w2 hw2 => ?_, fun i' ys hy => ?_⟩
      · refine run_firstCells_some w2 sz n ⟨E.ρ r, 0 * sz, none⟩ n c _ (by simp; omega) (fun j u hu => ?_)
        rw [Addr.add_lit, Nat.zero_mul, Nat.zero_add, cell_of_row w2 (E.ρ r) j cur T' (lo, hi') ((hw2 _).trans h5)]
        rw [List.getElem?_take] at hu
        split at hu
        · simpa using hu
        · cases hu
      · obtain ⟨us, h11, h12, h13⟩ := h10 i' ys hy
        refine ⟨us, by omega, h12, fun j u hu => ?_⟩
        have hj : j < sz := by have := (List.getElem?_eq_some_iff.1 hu).1; omega
        have hlt := Bd.at_lt hy
        rw [hn] at hlt
        have : (i' + 1) * sz ≤ n * sz := Nat.mul_le_mul_right _ hlt
        rw [Nat.add_mul, Nat.one_mul] at this
        rw [List.getElem?_take, if_pos (by omega)]
        have := h13 j u hu
        rw [hsz] at this
        simpa using this
  obtain ⟨xs, hxl, hfirst, hxat⟩ := hold
  -- what the new row's cells are
  have hall : ∀ i' ys, bd'.at i' = some ys → ∃ us, us.length = sz ∧ reps E w ys us ∧ ∀ j u, us[j]? = some u → (xs ++ news)[i' * sz + j]? = some u := by
    intro i' ys hy
    rcases hat i' ys hy with ⟨h5, h6⟩ | ⟨h5, us, h6, h7, h8⟩
    · obtain ⟨us, h7, h8, h9⟩ := hxat i' ys h6
      refine ⟨us, h7, h8, fun j u hu => ?_⟩
      have := h9 j u hu
      rw [List.getElem?_append_left (List.getElem?_eq_some_iff.1 this).1]; exact this
    · refine ⟨us, h6, h7, fun j u hu => ?_⟩
      have e1 : i' * sz = n * sz + (i' - n) * sz := by rw [← Nat.add_mul]; congr 1; omega
      rw [List.getElem?_append_right (by omega), hxl, show i' * sz + j - n * sz = (i' - n) * sz + j by omega]
      exact h8 j u hu
  have hlen : (xs ++ news).length = (n + m) * sz := by rw [List.length_append, hxl, hnl, Nat.add_mul]
  by_cases hroom : n + m ≤ c
  · by_cases hc0 : c = 0
    · -- nothing is appended to nothing
      have hn0 : n = 0 := by omega
      have hm0 : m = 0 := by omega
      subst hn0; subst hm0
      have hnews : news = [] := List.eq_nil_of_length_eq_zero (by simpa using hnl)
      subst hnews; subst hc0
      refine ⟨.slice a 0 0, w, E.setAbs r (e.ver + 1), ?_, ?_, Out.absent hr he (by omega) (by omega)⟩
      · rcases hs.kind with ⟨e', hk⟩ | hk <;>
          (cases a with
           | none => simp [Builtin.append_, run_underlying hT, run_underlying hk, Go.sizeOf, typeInfo, hi, hsz1, hs.len, hs.cells]
           | some a => simp [Builtin.append_, run_underlying hT, run_underlying hk, Go.sizeOf, typeInfo, hi, hsz1, hs.len, hs.cells, storeCells])
      · rw [rep]
        exact ⟨by simp [Env.setAbs], fun _ => ⟨a, 0, rfl, by omega, Nat.zero_le _, fun _ => rfl, .inl rfl⟩⟩
    · obtain ⟨hna, rfl, cur, T', fz, h5, h6⟩ := h4.resolve_left hc0
      clear h4 hv
      obtain ⟨cur2, T2, lo, hi', h7, h8, h9, h10⟩ := (hr.ent r e he ⟨hl, hna⟩).blk hl
      rw [h5] at h7
      cases h7
      rw [Nat.zero_add] at h6
      have hfit : n * sz + news.length ≤ cur.size := by
        rw [hnl, ← Nat.add_mul]; exact Nat.le_trans (Nat.mul_le_mul_right _ hroom) h6
      have hrun := run_append_room_src (P := P) w T Tx ty El i hT hi (E.ρ r) 0 n c xv m news (by rw [hsz1]; exact hs) hroom
        (fun j hj => by rw [hsz1, cell_of_row w _ _ cur T' (lo, hi') h5]; simp; omega)
        (fun j hj => by rw [hsz1]; simp [World.frozen?, h5]; intro h; rcases h8 with h' | h' <;> omega)
      rw [hsz1, Nat.zero_add] at hrun
      rw [Nat.zero_mul]
      obtain ⟨hch, hss⟩ := setCells_ch (E.ρ r) news (n * sz) w
      have hrow := heap_setCells_row w (E.ρ r) T' (lo, hi') news (n * sz) cur h5 hfit
      refine ⟨_, _, E.set r (E.ρ r) (e.ver + 1), hrun, ?_, Out.one hr he (.inr (by omega)) (.inl ⟨rfl, hl, hna⟩) hch.os hch.tape hch.output (by omega) (fun k hk hne => hch.block k hk hne) ?_ ?_⟩
      · rw [rep, Env.set_ver, Env.set_ρ]
        refine ⟨Nat.le_refl _, fun _ => ⟨_, c, rfl, hroom, h2, (fun h => by cases h), .inr ⟨Env.set_abs _ _ _ _, by rw [Nat.zero_mul], _, _, _, hrow, ?_⟩⟩⟩
        rw [Nat.zero_add]
        simp only [List.size_toArray, List.length_append, List.length_take, List.length_drop, Array.length_toList]
        omega
      · intro cur3 T3 fz3 h11
        rw [h5] at h11
        cases h11
        exact ⟨_, _, _, hrow, by simp; omega⟩
      · intro X
        refine ⟨fun _ => ⟨_, _, _, _, hrow, ?_, ?_, fun i' ys hy => ?_⟩⟩
        · rcases h8 with h | h
          · exact .inl h
          · refine .inr ?_
            simp only [List.size_toArray, List.length_append, List.length_take, List.length_drop, Array.length_toList]
            omega
        · rw [hn', hsz', Nat.add_mul, ← hnl]
          simp only [List.size_toArray, List.length_append, List.length_take, List.length_drop, Array.length_toList]
          omega
        · obtain ⟨us, h12, h13, h14⟩ := hall i' ys hy
          rw [hsz']
          refine ⟨us, h12, reps_ext X _ _ h13, fun j u hu => ?_⟩
          have h15 := h14 j u hu
          have hlt := (List.getElem?_eq_some_iff.1 h15).1
          have hlen2 : (cur.toList.take (n * sz) ++ news).length = (xs ++ news).length := by simp [hxl]; omega
          -- the first cells are the old ones
          have hx2 : cur.toList.take (n * sz) = xs := by
            have h16 := hfirst w (fun _ => rfl)
            rw [run_firstCells_some w sz n ⟨E.ρ r, 0 * sz, none⟩ n c (cur.toList.take (n * sz)) (by simp; omega) (fun j u hu => by
              rw [Addr.add_lit, Nat.zero_mul, Nat.zero_add, cell_of_row w (E.ρ r) j cur T' (lo, hi') h5]
              rw [List.getElem?_take] at hu
              split at hu
              · simpa using hu
              · cases hu)] at h16
            have h17 := (Result.ok.inj h16).1
            exact congrArg Array.toList h17 |> fun h => by simpa using h
          rw [List.getElem?_toArray, hx2, List.getElem?_append_left hlt]
          exact h15
  · clear h4 hv
    have hfc := hfirst w.drew (fun _ => rfl)
    have hrun := run_append_grow_src (P := P) w T Tx ty El i z hT hi hiz a n c xs (by rw [hsz1]; exact hfc) xv m news (by rw [hsz1]; exact hs) (by omega) (by omega) (growslice_fits (by omega) (by rw [hiby]; exact hbytes))
    have hge := grownCap_ge w (n + m) c El
    have hcm := grownCap_le_maxLen w (n + m) c El h63
    refine ⟨_, _, E.set r w.heap.size (e.ver + 1), hrun, ?_, Out.one hr he (.inr (by omega)) (.inr (Nat.le_refl _)) rfl rfl rfl (by simp) (fun k hk _ => Below.heap_alloc w.drew _ k hk) (fun cur3 T3 fz3 h11 => ?_) (fun X => ⟨fun _ => ⟨_, _, 0, 0, heap_alloc_new w.drew _, .inl (Nat.le_refl _), ?_, fun i' ys hy => ?_⟩⟩)⟩
    · rw [rep, Env.set_ver, Env.set_ρ]
      refine ⟨Nat.le_refl _, fun _ => ⟨_, _, rfl, hge, hcm, (fun h => by cases h), .inr ⟨Env.set_abs _ _ _ _, by rw [Nat.zero_mul], _, _, _, heap_alloc_new w.drew _, ?_⟩⟩⟩
      rw [Array.size_append, size_zeroCells, List.size_toArray, hlen, hzz, ← Nat.add_mul]
      exact Nat.mul_le_mul_right _ (by omega)
    · have := (Array.getElem?_eq_some_iff.1 h11).1; omega
    · rw [hn', hsz', Array.size_append, List.size_toArray, hlen]; omega
    · obtain ⟨us, h12, h13, h14⟩ := hall i' ys hy
      rw [hsz']
      refine ⟨us, h12, reps_ext X _ _ h13, fun j u hu => ?_⟩
      have h15 := h14 j u hu
      have hlt := (List.getElem?_eq_some_iff.1 h15).1
      rw [Array.getElem?_append_left (by simpa using hlt)]
      simpa using h15
/-! what is appended -/
theorem src_cells {E : Env} {w : World} {sz b : Nat} : ∀ (els : List (List AV)) (o : Nat), (∀ i ys, els[i]? = some ys → ∃ cs : List Value, cs.length = sz ∧ reps E w ys cs ∧ (∀ u ∈ cs, u.oneCell' = true) ∧ ∀ j u, cs[j]? = some u → w.cell? ⟨b, o + i * sz + j, none⟩ = some u) →
    ∃ news : List Value, news.length = els.length * sz ∧ (∀ j u, news[j]? = some u → w.cell? ⟨b, o + j, none⟩ = some u) ∧ (∀ u ∈ news, u.oneCell' = true) ∧
      ∀ i ys, els[i]? = some ys → ∃ cs : List Value, cs.length = sz ∧ reps E w ys cs ∧ ∀ j u, cs[j]? = some u → news[i * sz + j]? = some u
  | [], o, _ => ⟨[], by simp, by simp, by simp, by simp⟩
  | y :: els, o, h => by
    obtain ⟨cs, h1, h2, h3, h4⟩ := h 0 y rfl
    obtain ⟨news, g1, g2, g3, g4⟩ := src_cells els (o + sz) (fun i ys hy => by
      obtain ⟨cs, k1, k2, k3, k4⟩ := h (i + 1) ys (by simpa using hy)
      refine ⟨cs, k1, k2, k3, fun j u hu => ?_⟩
      have := k4 j u hu
      rw [show o + (i + 1) * sz + j = o + sz + i * sz + j by rw [Nat.add_mul, Nat.one_mul]; omega] at this
      exact this)
    refine ⟨cs ++ news, ?_, ?_, ?_, ?_⟩
    · simp only [List.length_append, List.length_cons, h1, g1, Nat.add_mul, Nat.one_mul]; omega
    · intro j u hu
      rw [List.getElem?_append] at hu
      split at hu
      · have := h4 j u hu; simpa using this
      · have := g2 _ u hu
        rw [h1] at this
        rw [show o + j = o + sz + (j - sz) by omega]; exact this
    · intro u hu
      rcases List.mem_append.1 hu with h | h
      · exact h3 u h
      · exact g3 u h
    · intro i ys hy
      cases i with
      | zero =>
        simp only [List.getElem?_cons_zero, Option.some.injEq] at hy
        subst hy
        exact ⟨cs, h1, h2, fun j u hu => by rw [Nat.zero_mul, Nat.zero_add, List.getElem?_append_left (List.getElem?_eq_some_iff.1 hu).1]; exact hu⟩
      | succ i =>
        obtain ⟨cs', k1, k2, k3⟩ := g4 i ys (by simpa using hy)
        refine ⟨cs', k1, k2, fun j u hu => ?_⟩
        rw [Nat.add_mul, Nat.one_mul, List.getElem?_append_right (by omega), h1, show i * sz + sz + j - sz = i * sz + j by omega]
        exact k3 j u hu
def bcells (l : List UInt8) : List (List AV) := l.map fun b => [.val (bv b)]
/-- what a slice's elements are -/
def elsK (tb : TypeId → Option TI) (hg : Nat → Option Ent) (Tx : TypeId) (x : AV) (K : Prop → Nat → List (List AV) → Prop) : Prop := match tb Tx with
  | none => False
  | some xi => match xi.u with
    | .slice _ => match x with
      | .bs z m => K True 1 (bcells m)
      | .sl z sz f d l => K (∀ x ∈ l, onesA hg (f x)) sz (l.map f)
      | .val (.slice none 0 0) => K True 0 []
      | .own r ver sz off n => match hg r with
        | none => False
        | some e => match e.bd with
          | .bytes l => K (ver = e.ver ∧ sz = 1 ∧ off + n ≤ l.length) 1 (bcells ((l.drop off).take n))
          | .row sz' f d l => K (ver = e.ver ∧ sz = sz' ∧ off + n ≤ l.length ∧ ∀ x ∈ (l.drop off).take n, onesA hg (f x)) sz' (((l.drop off).take n).map f)
          | _ => False
      | _ => False
    | .string => match x with
      | .val (.string s) => K True 1 (bcells s.data.toList)
      | _ => False
    | _ => False
theorem bcells_one (hg : Nat → Option Ent) (l : List UInt8) : ∀ ys ∈ bcells l, onesA hg ys := by
  intro ys hy
  obtain ⟨b, _, rfl⟩ := List.mem_map.1 hy
  exact ⟨rfl, trivial⟩
theorem els_sound {tb : TypeId → Option TI} (htb : TbOk P tb) {Tx : TypeId} {x : AV} {K : Prop → Nat → List (List AV) → Prop} (h : elsK tb hg Tx x K) :
    ∃ Ψ sz els, K Ψ sz els ∧ (Ψ → ∀ (E : Env) (H : List Ent) (w : World) (v : Value), HR E w H → (∀ (r : Nat) (e : Ent), hg r = some e → H[r]? = some e) → rep E w x v →
      ∀ sz', (els = [] ∨ sz' = sz) → ∃ news, Src P sz' Tx v els.length news w ∧ ∀ i ys, els[i]? = some ys → ∃ us : List Value, us.length = sz' ∧ reps E w ys us ∧ ∀ j u, us[j]? = some u → news[i * sz' + j]? = some u) := by
  unfold elsK at h
  split at h
  · exact h.elim
  rename_i xi hxi
  have hT := (htb Tx xi hxi).u
  -- from cells that are there
  have fin : ∀ {E : Env} {H : List Ent} {w : World} {E0 : TypeId} {a : Option Addr} {c : Nat} {els : List (List AV)} {sz' : Nat}, P.underlying Tx = some (.slice E0) → els.length ≤ c → (a = none → c = 0) →
      (els = [] ∨ ∃ b o, a = some ⟨b, o, none⟩ ∧ ∀ i ys, els[i]? = some ys → ∃ cs : List Value, cs.length = sz' ∧ reps E w ys cs ∧ (∀ u ∈ cs, u.oneCell' = true) ∧ ∀ j u, cs[j]? = some u → w.cell? ⟨b, o + i * sz' + j, none⟩ = some u) →
      ∃ news, Src P sz' Tx (.slice a els.length c) els.length news w ∧ ∀ i ys, els[i]? = some ys → ∃ us : List Value, us.length = sz' ∧ reps E w ys us ∧ ∀ j u, us[j]? = some u → news[i * sz' + j]? = some u := by
    intro E H w E0 a c els sz' hTx hle hnone hcase
    rcases hcase with rfl | ⟨b, o, rfl, hc⟩
    · refine ⟨[], ?_, by simp⟩
      cases a with
      | none => exact Src.ofNil w hTx c
      | some ad => exact Src.ofSlice w hTx ad 0 c [] (by simp) (by simp) (by simp)
    · obtain ⟨news, g1, g2, g3, g4⟩ := src_cells els o hc
      exact ⟨news, Src.ofSlice w hTx ⟨b, o, none⟩ els.length c news g1 (fun j u hu => by rw [Addr.add_lit]; exact g2 j u hu) g3, g4⟩
  split at h
  · rename_i E0 hu
    rw [hu] at hT
    have hTx : P.underlying Tx = some (.slice E0) := hT
    split at h
    · rename_i z m
      refine ⟨_, _, _, h, fun p E H w v hr hh hv sz' hsz => ?_⟩
      rw [rep] at hv
      obtain ⟨a, n, c, rfl, rfl, h1, h2, h3, h4⟩ := hv
      have e : (bcells m).length = m.length := by simp [bcells]
      have := fin (E := E) (H := H) (w := w) (a := a) (c := c) (els := bcells m) (sz' := sz') hTx (by omega) h3 (by
        by_cases hm : m = []
        · left; simp [hm, bcells]
        · right
          have hs1 : sz' = 1 := hsz.resolve_left (by simpa [bcells] using hm)
          subst hs1
          obtain ⟨x0, hx0⟩ : ∃ x0, m[0]? = some x0 := by cases m with | nil => exact absurd rfl hm | cons a l => exact ⟨a, rfl⟩
          obtain ⟨b, o, rfl, _, _⟩ := h4 0 x0 hx0
          refine ⟨b, o, rfl, fun i ys hy => ?_⟩
          simp only [bcells, List.getElem?_map, Option.map_eq_some_iff] at hy
          obtain ⟨x, hx, rfl⟩ := hy
          obtain ⟨b', o', hb, _, hcell⟩ := h4 i x hx
          cases hb
          refine ⟨[bv x], rfl, by simp only [reps, rep]; exact ⟨_, _, rfl, rfl, rfl⟩, by simp [bv, Value.oneCell'], fun j u hu => ?_⟩
          cases j with
          | zero => simp at hu; subst hu; rw [Nat.mul_one, Nat.add_zero]; exact hcell
          | succ j => simp at hu)
      rw [e] at this
      rw [e]; exact this
    · rename_i z sz α f d l
      refine ⟨_, _, _, h, fun p E H w v hr hh hv sz' hsz => ?_⟩
      rw [rep] at hv
      obtain ⟨a, n, c, rfl, rfl, h1, h2, h3, h4⟩ := hv
      have e : (l.map f).length = l.length := by simp
      have := fin (E := E) (H := H) (w := w) (a := a) (c := c) (els := l.map f) (sz' := sz') hTx (by omega) h3 (by
        by_cases hm : l = []
        · left; simp [hm]
        · right
          have hs1 : sz' = sz := hsz.resolve_left (by simpa using hm)
          subst hs1
          obtain ⟨x0, hx0⟩ : ∃ x0, l[0]? = some x0 := by cases l with | nil => exact absurd rfl hm | cons a l => exact ⟨a, rfl⟩
          obtain ⟨b, o, cs0, rfl, _⟩ := h4 0 x0 hx0
          refine ⟨b, o, rfl, fun i ys hy => ?_⟩
          simp only [List.getElem?_map, Option.map_eq_some_iff] at hy
          obtain ⟨x, hx, rfl⟩ := hy
          obtain ⟨b', o', cs, hb, _, hl, hcs, hcell⟩ := h4 i x hx
          cases hb
          exact ⟨cs, hl, hcs, onesA_sound (p x (List.mem_of_getElem? hx)) hr hh hcs, hcell⟩)
      rw [e] at this
      rw [e]; exact this
    · refine ⟨_, _, _, h, fun p E H w v hr hh hv sz' hsz => ?_⟩
      rw [rep_val hv]
      exact ⟨[], Src.ofNil w hTx 0, by simp⟩
    · rename_i r ver sz off n
      split at h
      · exact h.elim
      rename_i e he
      -- the row's cells
      have row : ∀ {E : Env} {H : List Ent} {w : World} {v : Value} {sz' : Nat} {els : List (List AV)}, HR E w H → (∀ (r : Nat) (e : Ent), hg r = some e → H[r]? = some e) → rep E w (.own r ver sz off n) v → ver = e.ver → sz = e.bd.sz → sz' = sz ∨ els = [] → els.length = n →
          (∀ i ys, els[i]? = some ys → e.bd.at (off + i) = some ys ∧ onesA hg ys) →
          ∃ news, Src P sz' Tx v els.length news w ∧ ∀ i ys, els[i]? = some ys → ∃ us : List Value, us.length = sz' ∧ reps E w ys us ∧ ∀ j u, us[j]? = some u → news[i * sz' + j]? = some u := by
        intro E H w v sz' els hr hh hv hver hsz hsz2 hlen hels
        rw [rep] at hv
        have hH := hh r e he
        obtain ⟨a, c, rfl, h1, h2, h3, h4⟩ := hv.2 (hver.trans (hr.ver r e hH).symm)
        have := fin (E := E) (H := H) (w := w) (a := a) (c := c) (els := els) (sz' := sz') hTx (by omega) h3 (by
          by_cases hm : els = []
          · exact .inl hm
          · right
            have hs1 : sz' = sz := hsz2.resolve_right hm
            have hn : els.length ≠ 0 := fun e => hm (List.eq_nil_of_length_eq_zero e)
            obtain ⟨hna, rfl, _⟩ := h4.resolve_left (by omega)
            refine ⟨_, _, rfl, fun i ys hy => ?_⟩
            obtain ⟨h5, h6⟩ := hels i ys hy
            obtain ⟨cs, h7, h8, h9⟩ := hr.cells hH h5
            refine ⟨cs, by omega, h8, onesA_sound h6 hr hh h8, fun j u hu => ?_⟩
            have := h9 j u hu
            rw [← hsz, Nat.add_mul] at this
            rw [hs1]
            exact this)
        rw [hlen] at this ⊢; exact this
      split at h
      · rename_i l hb
        refine ⟨_, _, _, h, fun p E H w v hr hh hv sz' hsz => ?_⟩
        obtain ⟨p1, p2, p3⟩ := p
        refine row hr hh hv p1 (by rw [hb, p2]; rfl) (hsz.symm.imp (fun h => h.trans p2.symm) id) (by simp [bcells]; omega) (fun i ys hy => ⟨?_, bcells_one hg _ ys (List.mem_of_getElem? hy)⟩)
        rw [hb]
        simp only [bcells, List.getElem?_map, Option.map_eq_some_iff, List.getElem?_take, List.getElem?_drop] at hy
        obtain ⟨x, hx, rfl⟩ := hy
        split at hx
        · simp [Bd.at, hx]
        · cases hx
      · rename_i sz2 α f d l hb
        refine ⟨_, _, _, h, fun p E H w v hr hh hv sz' hsz => ?_⟩
        obtain ⟨p1, p2, p3, p4⟩ := p
        refine row hr hh hv p1 (by rw [hb, p2]; rfl) (hsz.symm.imp (fun h => h.trans p2.symm) id) (by simp; omega) (fun i ys hy => ?_)
        rw [hb]
        simp only [List.getElem?_map, Option.map_eq_some_iff] at hy
        obtain ⟨x, hx, rfl⟩ := hy
        refine ⟨?_, p4 x (List.mem_of_getElem? hx)⟩
        simp only [List.getElem?_take, List.getElem?_drop] at hx
        split at hx
        · simp [Bd.at, hx]
        · cases hx
      · exact h.elim
    · exact h.elim
  · rename_i hu
    rw [hu] at hT
    have hTx : P.underlying Tx = some .string := hT
    split at h
    rotate_left
    · exact h.elim
    rename_i s
    refine ⟨_, _, _, h, fun p E H w v hr hh hv sz' hsz => ?_⟩
    rw [rep_val hv]
    have e : (bcells s.data.toList).length = s.size := by simp [bcells]
    by_cases hm : s.data.toList = []
    · have e0 : s.size = 0 := by rw [← e, hm]; rfl
      refine ⟨[], ?_, by simp [hm, bcells]⟩
      have e1 : (bcells s.data.toList).length = 0 := by rw [e, e0]
      rw [e1]
      have hs0 : s = ByteArray.empty := by
        cases s with
        | mk a => simp at hm; subst hm; rfl
      have h9 := Src.ofString w hTx s
      have hbc : byteCells s = [] := by unfold byteCells; rw [hm]; rfl
      rw [hbc, e0] at h9
      exact ⟨h9.kind, h9.len, by simp [Builtin.firstCells, hs0], by simp [Builtin.firstCells, hs0], by simp, by simp⟩
    · have hs1 : sz' = 1 := hsz.resolve_left (by simpa [bcells] using hm)
      subst hs1
      refine ⟨byteCells s, by rw [e]; exact Src.ofString w hTx s, fun i ys hy => ?_⟩
      simp only [bcells, List.getElem?_map, Option.map_eq_some_iff] at hy
      obtain ⟨x, hx, rfl⟩ := hy
      refine ⟨[bv x], rfl, by simp only [reps, rep]; exact ⟨_, _, rfl, rfl, rfl⟩, fun j u hu => ?_⟩
      cases j with
      | zero => simp at hu; subst hu; simp only [byteCells, Nat.mul_one, Nat.add_zero, List.getElem?_map, hx]; rfl
      | succ j => simp at hu
  · exact h.elim
end
end Go.Proofs.Ytjfenbkhgamidaa
