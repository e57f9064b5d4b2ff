/- Abstract values: new slices, conversions of bytes, and all operations together ('stepK'). Conditions: what 'TIok' says of the types. -/
import Derived.Test.YtjfenbkhgamidaaAv9
namespace Go.Proofs.Ytjfenbkhgamidaa
open Go.RowKit
set_option linter.unusedVariables false
section
variable {P : Program} {o : Oper} {ev : Operand → AV} {hg : Nat → Option Ent}
/-- a new row of n elements, for the slice that an operation makes -/
def rowK (hg : Nat → Option Ent) (p : Nat) (o : Oper) (n : Nat) (bd : Bd) (K : KF) : Prop := match o.dst with
  | none => False
  | some d => match hg (p + d) with
    | none => False
    | some e => K True (.own (p + d) (e.ver + 1) bd.sz 0 n) [(p + d, ⟨e.ver + 1, bd⟩)]
theorem row_sound {p n : Nat} {bd : Bd} {K : KF} {Ψ : Prop} (h : rowK hg p o n bd fun Φ v us => K (Ψ ∧ Φ) v us) (hrun : Ψ → bd.count = n ∧ ∀ (E : Env) (H : List Ent) (w : World) (ρv : Operand → Value), HR E w H → (∀ (r : Nat) (e : Ent), hg r = some e → H[r]? = some e) → (∀ x ∈ opnds o.op, rep E w (ev x) (ρv x)) →
    ∃ (cs : Array Value) (T : TypeId) (c : Nat), (execOp ρv o).run P w = .ok (.value (.slice (some ⟨w.heap.size, 0, none⟩) n c)) (w.alloc (.cells cs T)) ∧ n ≤ c ∧ c ≤ maxLen ∧ c * bd.sz ≤ cs.size ∧
      ∀ i ys, bd.at i = some ys → ∃ us : List Value, us.length = bd.sz ∧ reps E w ys us ∧ ∀ j u, us[j]? = some u → cs[i * bd.sz + j]? = some u) : ∃ Φ v us, K Φ v us ∧ Snd P o ev hg Φ v us := by
  unfold rowK at h
  split at h
  · exact h.elim
  rename_i d hd
  split at h
  · exact h.elim
  rename_i e he
  refine ⟨_, _, _, h, fun p' E H w ρv hr hh hops => ?_⟩
  obtain ⟨hcount, hrun⟩ := hrun p'.1
  obtain ⟨cs, T, c, h1, h2, h3, h4, h5⟩ := hrun E H w ρv hr hh hops
  have O := Out.new (T := T) (cs := cs.toList) (bd' := bd) hr (hh _ _ he) (by rw [hcount]; simp; exact Nat.le_trans (Nat.mul_le_mul_right _ h2) h4) (fun i ys hy => by
    obtain ⟨us, k1, k2, k3⟩ := h5 i ys hy
    exact ⟨us, k1, k2, fun j u hu => by simpa using k3 j u hu⟩)
  have e1 : cs.toList.toArray = cs := by simp
  rw [e1] at O
  refine ⟨_, _, _, .inl h1, ?_, O⟩
  rw [rep, Env.set_ver, Env.set_ρ]
  refine ⟨Nat.le_refl _, fun _ => ⟨_, c, rfl, h2, h3, (fun h => by cases h), .inr ⟨Env.set_abs _ _ _ _, by rw [Nat.zero_mul], _, _, _, heap_alloc_new w _, ?_⟩⟩⟩
  rw [Nat.zero_add]; exact h4
/-- integers as bytes, if they are known -/
def intsOf (k : IntKind) : List AV → Option (List Int)
  | [] => some []
  | .val (.int k' n) :: l => if k' = k then match intsOf k l with
      | some ns => some (n :: ns)
      | none => none
    else none
  | _ :: _ => none
theorem intsOf_sound {k : IntKind} : ∀ {l : List AV} {ns : List Int}, intsOf k l = some ns → l = ns.map fun n => .val (.int k n)
  | [], ns, h => by simp [intsOf] at h; subst h; rfl
  | x :: l, ns, h => by
    unfold intsOf at h
    split at h
    · cases h; rename_i h1; cases h1
    · rename_i k' n l' h1
      cases h1
      split at h
      · rename_i hk
        split at h
        · rename_i ns' hns
          cases h
          rw [intsOf_sound hns, hk]; rfl
        · cases h
      · cases h
    · cases h
def okBytes : List Int → Prop
  | [] => True
  | n :: l => (0 ≤ n ∧ n ≤ 255) ∧ okBytes l
theorem okBytes_sound : ∀ {l : List Int}, okBytes l → ∀ n ∈ l, 0 ≤ n ∧ n ≤ 255
  | n :: l, h, m, hm => by
    rcases List.mem_cons.1 hm with rfl | hm
    · exact h.1
    · exact okBytes_sound h.2 m hm
/-- a slice literal -/
def litK (tb : TypeId → Option TI) (hg : Nat → Option Ent) (p : Nat) (o : Oper) (ei : TI) (len : Nat) (cells : List AV) (Ψ : Prop) (K : KF) : Prop := match ei.u with
  | .int .u8 => match intsOf .u8 cells with
    | some ns => rowK hg p o len (.bytes (ns.map fun n => UInt8.ofNat n.toNat)) fun Φ v us => K ((Ψ ∧ okBytes ns ∧ ns.length = len ∧ ei.sz = 1) ∧ Φ) v us
    | none => False
  | .int k => match intsOf k cells with
    | some ns => rowK hg p o len (.row 1 (intF k) 0 ns) fun Φ v us => K ((Ψ ∧ ns.length = len ∧ ei.sz = 1) ∧ Φ) v us
    | none => False
  | _ => rowK hg p o len (.row ei.sz (fun i => takeL (dropL cells (i * ei.sz)) ei.sz) 0 (List.range len)) fun Φ v us => K ((Ψ ∧ cells.length = len * ei.sz) ∧ Φ) v us
def zerosA (n : Nat) (zs : List AV) : List AV := match n with
  | 0 => []
  | n + 1 => zs ++ zerosA n zs
def buildSliceK (tb : TypeId → Option TI) (hg : Nat → Option Ent) (p : Nat) (o : Oper) (T : TypeId) (len : Nat) (parts : List (Nat × AV)) (K : KF) : Prop := match tb T with
  | none => False
  | some ti => match ti.u with
    | .slice El => match tb El with
      | none => False
      | some ei => fillA hg (fun i => some (i * ei.sz, ei.sz)) parts (zerosA len (ei.zero.map .val)) fun Φ cells => litK tb hg p o ei len cells (Φ ∧ len * ei.sz ≤ 16777216 ∧ len ≤ 16777216) K
    | _ => False
theorem zeros_get (z : Array Value) (sz : Nat) (hz : z.size = sz) : ∀ (n : Nat), ((Array.range (n * sz)).map (z[· % z.size]!)).toList = (List.replicate n z.toList).flatten
  | 0 => by simp
  | n + 1 => by
    have ih := zeros_get z sz hz n
    rw [List.replicate_succ', List.flatten_append, ← ih]
    apply List.ext_getElem?
    intro i
    simp only [Array.toList_map, Array.toList_range, List.getElem?_map, List.getElem?_append, List.length_map, List.length_range, List.flatten_cons, List.flatten_nil, List.append_nil]
    by_cases hi : i < n * sz
    · have h2 : i < (n + 1) * sz := by rw [Nat.add_mul]; omega
      simp [hi, h2]
    · rw [if_neg hi]
      by_cases h2 : i < (n + 1) * sz
      · have h3 : i - n * sz < sz := by rw [Nat.add_mul, Nat.one_mul] at h2; omega
        have h4 : i % sz = i - n * sz := by
          have : i = (i - n * sz) + sz * n := by rw [Nat.mul_comm sz n]; omega
          rw [this, Nat.add_mul_mod_self_left, Nat.mod_eq_of_lt (by omega)]
          rw [Nat.mul_comm sz n]; omega
        rw [List.getElem?_range h2]
        simp only [Option.map_some, hz, h4]
        rw [getElem!_pos z _ (by omega)]
        simp [hz, h3]
      · have h3 : ¬ i - n * sz < sz := by rw [Nat.add_mul, Nat.one_mul] at h2; omega
        rw [List.getElem?_eq_none (by simp; omega), List.getElem?_eq_none (by simp [hz]; omega)]
        rfl
theorem reps_zeros {E : Env} {w : World} {zs : List AV} {vs : List Value} (h : reps E w zs vs) : ∀ n, reps E w (zerosA n zs) (List.replicate n vs).flatten
  | 0 => by simp [zerosA, reps]
  | n + 1 => by
    simp only [zerosA, List.replicate_succ, List.flatten_cons]
    exact reps_append h (reps_zeros h n)
theorem lit_sound {tb : TypeId → Option TI} {p len : Nat} {El : TypeId} {ei : TI} {cells : List AV} {Ψ : Prop} {K : KF} (h : litK tb hg p o ei len cells Ψ K) (hrun : Ψ → ∀ (E : Env) (H : List Ent) (w : World) (ρv : Operand → Value), HR E w H → (∀ (r : Nat) (e : Ent), hg r = some e → H[r]? = some e) → (∀ x ∈ opnds o.op, rep E w (ev x) (ρv x)) →
    ∃ (cs : Array Value) (T : TypeId) (c : Nat), (execOp ρv o).run P w = .ok (.value (.slice (some ⟨w.heap.size, 0, none⟩) len c)) (w.alloc (.cells cs T)) ∧ len ≤ c ∧ c ≤ maxLen ∧ c * ei.sz ≤ cs.size ∧ ∀ (i : Nat) (x : AV), cells[i]? = some x → ∃ u, cs[i]? = some u ∧ rep E w x u) : ∃ Φ v us, K Φ v us ∧ Snd P o ev hg Φ v us := by
  unfold litK at h
  split at h
  · split at h
    rotate_left
    · exact h.elim
    rename_i ns hns
    refine row_sound h fun q => ?_
    obtain ⟨q1, q2, q3, q4⟩ := q
    refine ⟨by simpa [Bd.count] using q3, fun E H w ρv hr hh hops => ?_⟩
    obtain ⟨cs, T, c, h1, h2, h3, h4, h5⟩ := hrun q1 E H w ρv hr hh hops
    refine ⟨cs, T, c, h1, h2, h3, by rw [q4] at h4; exact h4, fun i ys hy => ?_⟩
    simp only [Bd.at, List.getElem?_map, Option.map_eq_some_iff] at hy
    obtain ⟨b, ⟨n, hn, rfl⟩, rfl⟩ := hy
    have hcell : cells[i]? = some (.val (.int .u8 n)) := by rw [intsOf_sound hns]; simp [hn]
    obtain ⟨u, hu, hru⟩ := h5 i _ hcell
    have hb := okBytes_sound q2 n (List.mem_of_getElem? hn)
    have hu2 : u = bv (UInt8.ofNat n.toNat) := by
      rw [rep_val hru]; unfold bv
      congr 1
      simp; omega
    refine ⟨[u], rfl, by simp only [reps, rep]; exact ⟨_, _, rfl, hu2, rfl⟩, fun j v hv => ?_⟩
    cases j with
    | zero => simp at hv; subst hv; simp only [Bd.sz, Nat.mul_one, Nat.add_zero]; exact hu
    | succ j => simp at hv
  · rename_i k _ hk
    split at h
    rotate_left
    · exact h.elim
    rename_i ns hns
    refine row_sound h fun q => ?_
    obtain ⟨q1, q3, q4⟩ := q
    refine ⟨by simpa [Bd.count] using q3, fun E H w ρv hr hh hops => ?_⟩
    obtain ⟨cs, T, c, h1, h2, h3, h4, h5⟩ := hrun q1 E H w ρv hr hh hops
    refine ⟨cs, T, c, h1, h2, h3, by rw [q4] at h4; exact h4, fun i ys hy => ?_⟩
    simp only [Bd.at, Option.map_eq_some_iff] at hy
    obtain ⟨n, hn, rfl⟩ := hy
    have hcell : cells[i]? = some (.val (.int k n)) := by rw [intsOf_sound hns]; simp [hn]
    obtain ⟨u, hu, hru⟩ := h5 i _ hcell
    refine ⟨[u], rfl, by simp only [intF, reps]; exact ⟨_, _, rfl, hru, rfl⟩, fun j v hv => ?_⟩
    cases j with
    | zero => simp at hv; subst hv; simp only [Bd.sz, Nat.mul_one, Nat.add_zero]; exact hu
    | succ j => simp at hv
  · refine row_sound h fun q => ?_
    obtain ⟨q1, q3⟩ := q
    refine ⟨by simp [Bd.count], fun E H w ρv hr hh hops => ?_⟩
    obtain ⟨cs, T, c, h1, h2, h3, h4, h5⟩ := hrun q1 E H w ρv hr hh hops
    refine ⟨cs, T, c, h1, h2, h3, h4, fun i ys hy => ?_⟩
    simp only [Bd.at, Option.map_eq_some_iff] at hy
    obtain ⟨i', hi', rfl⟩ := hy
    have hlt : i < len := by have := (List.getElem?_eq_some_iff.1 hi').1; simpa using this
    rw [List.getElem?_range hlt] at hi'
    cases hi'
    have hle : (i + 1) * ei.sz ≤ len * ei.sz := Nat.mul_le_mul_right _ hlt
    rw [Nat.add_mul, Nat.one_mul] at hle
    have hlen4 := Nat.le_trans (Nat.mul_le_mul_right ei.sz h2) h4
    rw [takeL_eq, dropL_eq]
    refine ⟨(cs.toList.drop (i * ei.sz)).take ei.sz, by simp [Bd.sz]; omega, reps_of (by simp; omega) (fun j x u hx hu => ?_), fun j u hu => ?_⟩
    · rw [List.getElem?_take] at hx hu
      split at hx
      · rename_i hj
        rw [if_pos hj] at hu
        rw [List.getElem?_drop] at hx hu
        obtain ⟨u', hu', hru⟩ := h5 _ _ hx
        have : cs[i * ei.sz + j]? = some u := by simpa using hu
        rw [this] at hu'; cases hu'; exact hru
      · cases hx
    · rw [List.getElem?_take] at hu
      split at hu
      · rw [List.getElem?_drop] at hu; simpa [Bd.sz] using hu
      · cases hu
theorem buildSlice_sound {tb : TypeId → Option TI} (htb : TbOk P tb) {p : Nat} {T : TypeId} {len : Nat} {parts : Array (Nat × Operand)} (ho : o.op = .buildSlice T len parts) {K : KF} (h : buildSliceK tb hg p o T len (parts.toList.map fun q => (q.1, ev q.2)) K) : ∃ Φ v us, K Φ v us ∧ Snd P o ev hg Φ v us := by
  unfold buildSliceK at h
  split at h
  · exact h.elim
  rename_i ti hti
  have hT := (htb T ti hti).u
  split at h
  rotate_left
  · exact h.elim
  rename_i El hu
  rw [hu] at hT
  have hT' : P.underlying T = some (.slice El) := hT
  split at h
  · exact h.elim
  rename_i ei hei
  have hE := htb El ei hei
  obtain ⟨z, hz, hzc⟩ := hE.info
  obtain ⟨i, hi, h1, h2, h3⟩ := info_parts hz
  have hzs : z.cells.size = ei.sz := by have := hE.zsz; rw [← hzc] at this; simpa using this
  obtain ⟨Φ, cells, h, hl⟩ := fillA_sound h
  refine lit_sound (El := El) h fun q E H w ρv hr hh hops => ?_
  obtain ⟨q1, q2, q3⟩ := q
  obtain ⟨cells', h5, h6⟩ := hl q1 E H w ρv ((Array.range (len * ei.sz)).map (z.cells[· % z.cells.size]!)) hr hh (by rw [ho] at hops; exact hops) (by
    rw [zeros_get z.cells ei.sz hzs, hzc]; exact reps_zeros (reps_vals _) len)
  have hlen := (reps_get h6).1
  have hsz : cells'.size = len * ei.sz := by
    have : ∀ (ps : List (Nat × Value)) (c c' : Array Value), Instr.fill (fun i => some (i * ei.sz, ei.sz)) c ps = some c' → c'.size = c.size := by
      intro ps
      induction ps with
      | nil => intro c c' h; simp [Instr.fill] at h; subst h; rfl
      | cons x ps ih =>
        intro c c' h
        simp only [Instr.fill] at h
        split at h
        · cases h
        · have h8 := ih _ _ h
          rw [h8]
          have : ∀ (l : List (Value × Nat)) (c : Array Value), (l.foldl (fun cs (c, j) => cs.setIfInBounds (x.1 * ei.sz + j) c) c).size = c.size := by
            intro l; induction l with
            | nil => intro c; rfl
            | cons y l ih => intro c; simp only [List.foldl_cons]; rw [ih]; simp
          rw [← Array.foldl_toList]; exact this _ _
    rw [this _ _ _ h5]; simp
  have e1 : (Instr.buildSlice T len (parts.map fun (i, x) => (i, ρv x))).run P w = .ok (.slice (some ⟨w.heap.size, 0, none⟩) len len) (w.alloc (.cells cells' El)) := by
    by_cases hpos : len * ei.sz = 0
    · have h5' : Instr.fill (fun i => some (i * ei.sz, ei.sz)) (#[] : Array Value) (parts.toList.map fun q => (q.1, ρv q.2)) = some cells' := by
        have e2 : (Array.range (len * ei.sz)).map (z.cells[· % z.cells.size]!) = #[] := by rw [hpos]; simp
        rw [← e2]; exact h5
      simp [Instr.buildSlice, run_underlying hT', Go.sizeOf, typeInfo, hi, h2, hpos, newRow, Array.range_zero']
      rw [h5']
      rfl
    · have h5' : Instr.fill (fun i => some (i * ei.sz, ei.sz)) ((Array.range (len * ei.sz)).map (z.cells[· % z.cells.size]!)) (parts.map fun (i, x) => (i, ρv x)).toList = some cells' := by
        have e3 : (parts.map fun (i, x) => (i, ρv x)).toList = parts.toList.map fun q => (q.1, ρv q.2) := by simp
        rw [e3]; exact h5
      exact run_buildSlice w T El len _ cells' i z hT' hi h1 (by rw [h2]; omega) (by rw [h2]; exact hpos) (by rw [h2]; exact h5')
  refine ⟨cells', El, len, ?_, Nat.le_refl _, ?_, by rw [hsz]; exact Nat.le_refl _, fun k x hx => ?_⟩
  · unfold execOp
    simp only [ho, Sem.run_bind, e1, Result.andThen_ok, Sem.run_pure]
  · unfold maxLen; omega
  · obtain ⟨u, hu, hru⟩ := (reps_get h6).2 k x hx
    exact ⟨u, by simpa using hu, hru⟩
/-! make -/
def makeSliceK (tb : TypeId → Option TI) (hg : Nat → Option Ent) (p : Nat) (o : Oper) (T : TypeId) (x y : AV) (K : KF) : Prop := match tb T with
  | none => False
  | some ti => match ti.u with
    | .slice El => match tb El with
      | none => False
      | some ei => match x with
        | .val (.int _ n) => match y with
          | .val (.int _ c) => match ei.u with
            | .int .u8 => rowK hg p o n.toNat (.bytes (List.replicate n.toNat 0)) fun Φ v us => K ((0 ≤ n ∧ n ≤ c ∧ c * ei.bytes ≤ 140737488355328 ∧ 0 < ei.bytes ∧ ei.sz = 1 ∧ ei.zero = [.int .u8 0]) ∧ Φ) v us
            | .int k => rowK hg p o n.toNat (.row 1 (intF k) 0 (List.replicate n.toNat 0)) fun Φ v us => K ((0 ≤ n ∧ n ≤ c ∧ c * ei.bytes ≤ 140737488355328 ∧ 0 < ei.bytes ∧ ei.sz = 1 ∧ ei.zero = [.int k 0]) ∧ Φ) v us
            | _ => rowK hg p o n.toNat (.row ei.sz (fun (_ : Unit) => ei.zero.map .val) () (List.replicate n.toNat ())) fun Φ v us => K ((0 ≤ n ∧ n ≤ c ∧ c * ei.bytes ≤ 140737488355328 ∧ 0 < ei.bytes) ∧ Φ) v us
          | _ => False
        | _ => False
    | _ => False
theorem make_cells {z : Array Value} {sz n i j : Nat} (hz : z.size = sz) (hi : i < n) {u : Value} (hu : z.toList[j]? = some u) : (madeCells z (n * sz))[i * sz + j]? = some u := by
  have hj : j < sz := by have := (List.getElem?_eq_some_iff.1 hu).1; simp at this; omega
  have hle : (i + 1) * sz ≤ n * sz := Nat.mul_le_mul_right _ hi
  rw [Nat.add_mul, Nat.one_mul] at hle
  unfold madeCells
  have h1 : i * sz + j < n * sz := by omega
  have h2 : (i * sz + j) % z.size = j := by rw [hz, Nat.add_comm, Nat.add_mul_mod_self_right, Nat.mod_eq_of_lt hj]
  rw [Array.getElem?_map, Array.getElem?_range, if_pos h1]
  simp only [Option.map_some, h2]
  rw [getElem!_pos z j (by omega)]
  rw [← hu]
  simp [hz, hj]
theorem makeSlice_sound {tb : TypeId → Option TI} (htb : TbOk P tb) {p : Nat} {T : TypeId} {x y : Operand} (ho : o.op = .makeSlice T x y) {K : KF} (h : makeSliceK tb hg p o T (ev x) (ev y) K) : ∃ Φ v us, K Φ v us ∧ Snd P o ev hg Φ v us := by
  unfold makeSliceK at h
  split at h
  · exact h.elim
  rename_i ti hti
  have hT := (htb T ti hti).u
  split at h
  rotate_left
  · exact h.elim
  rename_i El hu
  rw [hu] at hT
  have hT' : P.underlying T = some (.slice El) := hT
  split at h
  · exact h.elim
  rename_i ei hei
  have hE := htb El ei hei
  obtain ⟨z, hz, hzc⟩ := hE.info
  obtain ⟨i, hi, h1, h2, h3⟩ := info_parts hz
  have hzs : z.cells.size = ei.sz := by have := hE.zsz; rw [← hzc] at this; simpa using this
  split at h
  rotate_left
  · exact h.elim
  rename_i k1 n hx
  split at h
  rotate_left
  · exact h.elim
  rename_i k2 c hy
  have run : 0 ≤ n → n ≤ c → c * ei.bytes ≤ 140737488355328 → 0 < ei.bytes → ∀ {E : Env} {w : World} {ρv : Operand → Value}, (∀ x ∈ opnds o.op, rep E w (ev x) (ρv x)) →
      (execOp ρv o).run P w = .ok (.value (.slice (some ⟨w.heap.size, 0, none⟩) n.toNat c.toNat)) (w.alloc (.cells (madeCells z.cells (c.toNat * ei.sz)) El)) ∧ n.toNat ≤ c.toNat ∧ c.toNat ≤ maxLen := by
    intro q1 q2 q3 q4 E w ρv hops
    have hvx := hops x (by rw [ho]; simp [opnds])
    have hvy := hops y (by rw [ho]; simp [opnds])
    rw [hx] at hvx; rw [hy] at hvy
    have hb : c ≤ c * ei.bytes := by
      have : c * 1 ≤ c * (ei.bytes : Int) := Int.mul_le_mul_of_nonneg_left (by omega) (by omega)
      omega
    have hrun := run_make (P := P) w T El i z hT' hi h1 k1 k2 n c q1 q2 (by rw [h3, Int.mul_comm]; omega) (by omega)
    rw [h2] at hrun
    refine ⟨?_, by omega, by unfold maxLen; omega⟩
    unfold execOp
    simp only [ho, rep_val hvx, rep_val hvy, Sem.run_bind, hrun, Result.andThen_ok, Sem.run_pure]
  have hrep : ∀ {α : Type} {a b : α} {m i : Nat}, (List.replicate m a)[i]? = some b → i < m ∧ b = a := by
    intro α a b m i h
    rw [List.getElem?_replicate] at h
    split at h
    · rename_i hlt; exact ⟨hlt, (Option.some.inj h).symm⟩
    · cases h
  split at h
  · refine row_sound h fun q => ?_
    obtain ⟨q1, q2, q3, q4, q5, q6⟩ := q
    refine ⟨by simp [Bd.count], fun E H w ρv hr hh hops => ?_⟩
    obtain ⟨g1, g2, g3⟩ := run q1 q2 q3 q4 hops
    refine ⟨_, _, _, g1, g2, g3, by rw [size_madeCells, q5]; exact Nat.le_refl _, fun i' ys hy' => ?_⟩
    simp only [Bd.at, Option.map_eq_some_iff] at hy'
    obtain ⟨b, hb, rfl⟩ := hy'
    obtain ⟨hlt, rfl⟩ := hrep hb
    refine ⟨[bv 0], rfl, by simp only [reps, rep]; exact ⟨_, _, rfl, rfl, rfl⟩, fun j u hu => ?_⟩
    have := make_cells (n := c.toNat) (i := i') (j := j) (u := u) hzs (by omega) (by rw [hzc, q6]; exact hu)
    rw [q5] at this ⊢
    exact this
  · rename_i k _ hk
    refine row_sound h fun q => ?_
    obtain ⟨q1, q2, q3, q4, q5, q6⟩ := q
    refine ⟨by simp [Bd.count], fun E H w ρv hr hh hops => ?_⟩
    obtain ⟨g1, g2, g3⟩ := run q1 q2 q3 q4 hops
    refine ⟨_, _, _, g1, g2, g3, by rw [size_madeCells, q5]; exact Nat.le_refl _, fun i' ys hy' => ?_⟩
    simp only [Bd.at, Option.map_eq_some_iff] at hy'
    obtain ⟨b, hb, rfl⟩ := hy'
    obtain ⟨hlt, rfl⟩ := hrep hb
    refine ⟨[.int k 0], rfl, by simp only [intF, reps, rep]; exact ⟨_, _, rfl, rfl, rfl⟩, fun j u hu => ?_⟩
    have := make_cells (n := c.toNat) (i := i') (j := j) (u := u) hzs (by omega) (by rw [hzc, q6]; exact hu)
    rw [q5] at this ⊢
    exact this
  · refine row_sound h fun q => ?_
    obtain ⟨q1, q2, q3, q4⟩ := q
    refine ⟨by simp [Bd.count], fun E H w ρv hr hh hops => ?_⟩
    obtain ⟨g1, g2, g3⟩ := run q1 q2 q3 q4 hops
    refine ⟨_, _, _, g1, g2, g3, by rw [size_madeCells]; exact Nat.le_refl _, fun i' ys hy' => ?_⟩
    simp only [Bd.at, Option.map_eq_some_iff] at hy'
    obtain ⟨b, hb, rfl⟩ := hy'
    obtain ⟨hlt, rfl⟩ := hrep hb
    refine ⟨ei.zero, hE.zsz, reps_vals _, fun j u hu => ?_⟩
    exact make_cells (n := c.toNat) (i := i') (j := j) (u := u) hzs (by omega) (by rw [hzc]; exact hu)
/-! min, max -/
theorem min2_sound {mx : Bool} {x y : Operand} {ts : Array TypeId} (ho : o.op = .call { callee := .builtin (if mx then .max else .min), args := #[x, y], argTypes := ts }) {K : KF} (h : min2K mx (ev x) (ev y) K) : ∃ Φ v us, K Φ v us ∧ Snd P o ev hg Φ v us := by
  unfold min2K at h
  split at h
  rotate_left
  · exact h.elim
  rename_i k a hx
  split at h
  rotate_left
  · exact h.elim
  rename_i k' b hy
  refine ⟨_, _, _, h, Snd.pure fun p E H w ρv hr hh hops => ?_⟩
  have hvx := hops x (by rw [ho]; simp [opnds])
  have hvy := hops y (by rw [ho]; simp [opnds])
  rw [hx] at hvx; rw [hy] at hvy
  refine ⟨_, ?_, by rw [rep]⟩
  unfold execOp
  cases mx
  · simp only [ho, Bool.false_eq_true, if_false, resolve, invoke, builtin, Sem.run_bind, Sem.run_pure, Result.andThen_ok, List.map_toArray, List.map_cons, List.map_nil, rep_val hvx, rep_val hvy]
    have e : (if b < a then b else a) = min a b := by simp only [Int.min_def]; split <;> split <;> omega
    simp [Builtin.min_, Builtin.min2, e]
  · simp only [ho, if_true, resolve, invoke, builtin, Sem.run_bind, Sem.run_pure, Result.andThen_ok, List.map_toArray, List.map_cons, List.map_nil, rep_val hvx, rep_val hvy]
    have e : (if b > a then b else a) = max a b := by simp only [Int.max_def]; split <;> split <;> omega
    simp [Builtin.max_, Builtin.max2, e]
end
end Go.Proofs.Ytjfenbkhgamidaa
