/- Abstract values: numbers, tests, lengths, parts. Conditions: what 'TIok' says of the types. -/
import Derived.Test.YtjfenbkhgamidaaAv5
import Derived.Laws.Small
import Derived.Laws.Pointers
namespace Go.Proofs.Ytjfenbkhgamidaa
set_option linter.unusedVariables false
section
variable {P : Program} {o : Oper} {ev : Operand → AV} {hg : Nat → Option Ent}
theorem run_binOp {op : BinOp} {T : TypeId} {x y : Operand} {T' : TypeId} (ho : o.op = .binOp op T x y T') {w : World} {ρv : Operand → Value} {u : Value} (hg1 : (eqGuard op T x y (ρv x) (ρv y)).run P w = .ok () w)
    (hr : (binOp op T (ρv x) (ρv y)).run P w = .ok u w) : (execOp ρv o).run P w = .ok (.value u) w := by
  unfold execOp
  simp only [ho, Sem.run_bind, hg1, Result.andThen_ok, hr, Sem.run_pure]
theorem eqGuard_int {op : BinOp} {T : TypeId} {x y : Operand} {k k' : IntKind} {a b : Int} (w : World) : (eqGuard op T x y (.int k a) (.int k' b)).run P w = .ok () w := by
  unfold eqGuard; split <;> rfl
theorem eqGuard_bool {op : BinOp} {T : TypeId} {x y : Operand} {a b : Bool} (w : World) : (eqGuard op T x y (.bool a) (.bool b)).run P w = .ok () w := by
  unfold eqGuard; split <;> rfl
theorem eqGuard_string {op : BinOp} {T : TypeId} {x y : Operand} {a b : ByteArray} (w : World) : (eqGuard op T x y (.string a) (.string b)).run P w = .ok () w := by
  unfold eqGuard; split <;> rfl
theorem eqGuard_ptr {op : BinOp} {T : TypeId} {x y : Operand} {a b : Option Addr} (w : World) : (eqGuard op T x y (.pointer a) (.pointer b)).run P w = .ok () w := by
  unfold eqGuard; split <;> rfl
theorem eqGuard_slice {op : BinOp} {T : TypeId} {x y : Operand} {a b : Option Addr} {n c m d : Nat} (w : World) : (eqGuard op T x y (.slice a n c) (.slice b m d)).run P w = .ok () w := by
  unfold eqGuard; split <;> rfl

/-- a pointer that is there, held against nil -/
def nilTest (op : BinOp) (K : Prop → AV → Prop) : Prop := match op with
  | .eql => K True (.val (.bool false))
  | .neq => K True (.val (.bool true))
  | _ => False
def nilBoth (op : BinOp) (K : Prop → AV → Prop) : Prop := match op with
  | .eql => K True (.val (.bool true))
  | .neq => K True (.val (.bool false))
  | _ => False
def boolK (op : BinOp) (a b : Bool) (K : Prop → AV → Prop) : Prop := match op with
  | .eql => K True (.val (.bool (a == b)))
  | .neq => K True (.val (.bool (!(a == b))))
  | _ => False
def strK (op : BinOp) (a b : ByteArray) (K : Prop → AV → Prop) : Prop := match op with
  | .eql => K True (.val (.bool (decide (a.data.toList = b.data.toList))))
  | .neq => K True (.val (.bool (!decide (a.data.toList = b.data.toList))))
  | .add => K (a.size + b.size ≤ 9223372036854775807) (.val (.string (a ++ b)))
  | _ => False
def binK (tb : TypeId → Option TI) (hg : Nat → Option Ent) (op : BinOp) (T : TypeId) (x y : AV) (K : KF) : Prop :=
  match x with
  | .val (.int k a) => match y with
    | .val (.int k' b) => match op with
      | .shl => shK .shl k a b fun Φ v => K Φ v []
      | .shr => shK .shr k a b fun Φ v => K Φ v []
      | op => intK op k a b fun Φ v => K (k' = k ∧ Φ) v []
    | _ => False
  | .val (.bool a) => match y with
    | .val (.bool b) => match tb T with
      | some ti => match ti.u with
        | .bool => boolK op a b fun Φ v => K Φ v []
        | _ => False
      | none => False
    | _ => False
  | .val (.string a) => match y with
    | .val (.string b) => strK op a b fun Φ v => K Φ v []
    | _ => False
  | .ref r ver _ _ _ => match y with
    | .val (.pointer none) => match tb T with
      | some ti => match ti.u with
        | .ptr _ => curK hg r ver fun Ψ => nilTest op fun Φ v => K Ψ v []
        | _ => False
      | none => False
    | _ => False
  | .val (.pointer none) => match y with
    | .val (.pointer none) => match tb T with
      | some ti => match ti.u with
        | .ptr _ => nilBoth op fun Φ v => K Φ v []
        | _ => False
      | none => False
    | _ => False
  | .val (.slice none 0 0) => match y with
    | .val (.slice none 0 0) => match tb T with
      | some ti => match ti.u with
        | .slice _ => nilBoth op fun Φ v => K Φ v []
        | _ => False
      | none => False
    | _ => False
  | .own r ver sz off n => match y with
    | .val (.slice none 0 0) => match tb T with
      | some ti => match ti.u with
        | .slice _ => curK hg r ver fun Ψ => nilTest op fun Φ v => K (Ψ ∧ 0 < n) v []
        | _ => False
      | none => False
    | _ => False
  | .bs z l => match y with
    | .val (.slice none 0 0) => match tb T with
      | some ti => match ti.u with
        | .slice _ => nilTest op fun Φ v => K (0 < l.length) v []
        | _ => False
      | none => False
    | _ => False
  | _ => False
theorem bin_sound {tb : TypeId → Option TI} (htb : TbOk P tb) {op : BinOp} {T T' : TypeId} {x y : Operand} (ho : o.op = .binOp op T x y T') {K : KF} (h : binK tb hg op T (ev x) (ev y) K) : ∃ Φ v us, K Φ v us ∧ Snd P o ev hg Φ v us := by
  have hops2 : ∀ {E : Env} {w : World} {ρv : Operand → Value}, (∀ x ∈ opnds o.op, rep E w (ev x) (ρv x)) → rep E w (ev x) (ρv x) ∧ rep E w (ev y) (ρv y) := by
    intro E w ρv hops
    rw [ho] at hops
    exact ⟨hops x (by simp [opnds]), hops y (by simp [opnds])⟩
  have fin : ∀ {Φ : Prop} {u : Value}, K Φ (.val u) [] → (Φ → ∀ (E : Env) (H : List Ent) (w : World) (a b : Value), HR E w H → (∀ (r : Nat) (e : Ent), hg r = some e → H[r]? = some e) → rep E w (ev x) a → rep E w (ev y) b →
      (eqGuard op T x y a b).run P w = .ok () w ∧ (binOp op T a b).run P w = .ok u w) → ∃ Φ v us, K Φ v us ∧ Snd P o ev hg Φ v us := by
    intro Φ u hK hrun
    refine ⟨Φ, _, [], hK, Snd.pure fun p E H w ρv hr hh hops => ?_⟩
    obtain ⟨h1, h2⟩ := hops2 hops
    obtain ⟨h3, h4⟩ := hrun p E H w _ _ hr hh h1 h2
    exact ⟨u, run_binOp ho h3 h4, by rw [rep]⟩
  unfold binK at h
  split at h
  · rename_i k a hx
    split at h
    rotate_left
    · exact h.elim
    rename_i k' b hy
    have key : ∀ {Φ : Prop} {u : Value}, K Φ (.val u) [] → (Φ → ∀ w, (binOp op T (.int k a) (.int k' b)).run P w = .ok u w) → ∃ Φ v us, K Φ v us ∧ Snd P o ev hg Φ v us := by
      intro Φ u hK hrun
      refine fin hK fun p E H w a' b' hr hh h1 h2 => ?_
      rw [hx] at h1; rw [hy] at h2
      rw [rep_val h1, rep_val h2]
      exact ⟨eqGuard_int w, hrun p w⟩
    split at h
    · obtain ⟨Φ, u, h1, h2⟩ := shK_sound (P := P) (k' := k') T h
      exact key h1 h2
    · obtain ⟨Φ, u, h1, h2⟩ := shK_sound (P := P) (k' := k') T h
      exact key h1 h2
    · obtain ⟨Φ, u, h1, h2⟩ := intK_sound (P := P) T h
      exact key h1 (fun p w => by rw [p.1]; exact h2 p.2 w)
  · rename_i a hx
    repeat' (split at h; rotate_left; (try exact h.elim))
    all_goals (try exact h.elim)
    rename_i _ b hy _ ti hti _ hu
    have hT := (htb T ti hti).u
    rw [hu] at hT
    have hT' : P.underlying T = some .bool := hT
    unfold boolK at h
    split at h
    · refine fin h fun p E H w a' b' hr hh h1 h2 => ?_
      rw [hx] at h1; rw [hy] at h2
      rw [rep_val h1, rep_val h2]
      exact ⟨eqGuard_bool w, run_eql_bool w T a b hT'⟩
    · refine fin h fun p E H w a' b' hr hh h1 h2 => ?_
      rw [hx] at h1; rw [hy] at h2
      rw [rep_val h1, rep_val h2]
      exact ⟨eqGuard_bool w, run_neq_bool w T a b hT'⟩
    · exact h.elim
  · rename_i a hx
    split at h
    rotate_left
    · exact h.elim
    rename_i b hy
    have e : (a.toList == b.toList) = decide (a.data.toList = b.data.toList) := by
      rw [ByteArray.toList_eq, ByteArray.toList_eq, Bool.eq_iff_iff]; simp
    unfold strK at h
    split at h
    · refine fin h fun p E H w a' b' hr hh h1 h2 => ?_
      rw [hx] at h1; rw [hy] at h2
      rw [rep_val h1, rep_val h2]
      exact ⟨eqGuard_string w, by simp only [binOp, Op.stringOp, Sem.run_pure, e]⟩
    · refine fin h fun p E H w a' b' hr hh h1 h2 => ?_
      rw [hx] at h1; rw [hy] at h2
      rw [rep_val h1, rep_val h2]
      exact ⟨eqGuard_string w, by simp only [binOp, Op.stringOp, Sem.run_pure, e]⟩
    · refine fin h fun p E H w a' b' hr hh h1 h2 => ?_
      rw [hx] at h1; rw [hy] at h2
      rw [rep_val h1, rep_val h2]
      refine ⟨eqGuard_string w, ?_⟩
      have : ¬ (((a.size + b.size : Nat) : Int) > IntKind.i64.max) := by simp [IntKind.max, IntKind.signed, IntKind.bits]; omega
      simp only [binOp, Op.stringOp]
      rw [if_neg this]; rfl
    · exact h.elim
  · rename_i r ver s i j hx
    repeat' (split at h; rotate_left; (try exact h.elim))
    all_goals (try exact h.elim)
    rename_i _ hy _ ti hti _ E0 hu
    have hT := (htb T ti hti).u
    rw [hu] at hT
    have hT' : P.underlying T = some (.pointer (P.pointee T)) := by
      have : P.underlying T = some (.pointer E0) := hT
      simp [Program.pointee, this]
    obtain ⟨Ψ, h, hc⟩ := curK_sound h
    unfold nilTest at h
    split at h
    · refine fin h fun p E H w a' b' hr hh h1 h2 => ?_
      rw [hx, rep] at h1; rw [hy] at h2
      rw [h1.2 (hc p E H w hr hh), rep_val h2]
      exact ⟨eqGuard_ptr w, run_eql_pointer_nil w T _ hT'⟩
    · refine fin h fun p E H w a' b' hr hh h1 h2 => ?_
      rw [hx, rep] at h1; rw [hy] at h2
      rw [h1.2 (hc p E H w hr hh), rep_val h2]
      exact ⟨eqGuard_ptr w, run_neq_pointer_nil w T _ hT'⟩
    · exact h.elim
  · rename_i hx
    repeat' (split at h; rotate_left; (try exact h.elim))
    all_goals (try exact h.elim)
    rename_i _ hy _ ti hti _ E0 hu
    have hT := (htb T ti hti).u
    rw [hu] at hT
    have hT' : P.underlying T = some (.pointer (P.pointee T)) := by
      have : P.underlying T = some (.pointer E0) := hT
      simp [Program.pointee, this]
    unfold nilBoth at h
    split at h
    · refine fin h fun p E H w a' b' hr hh h1 h2 => ?_
      rw [hx] at h1; rw [hy] at h2
      rw [rep_val h1, rep_val h2]
      exact ⟨eqGuard_ptr w, run_eql_pointer_nil w T _ hT'⟩
    · refine fin h fun p E H w a' b' hr hh h1 h2 => ?_
      rw [hx] at h1; rw [hy] at h2
      rw [rep_val h1, rep_val h2]
      exact ⟨eqGuard_ptr w, run_neq_pointer_nil w T _ hT'⟩
    · exact h.elim
  · rename_i hx
    repeat' (split at h; rotate_left; (try exact h.elim))
    all_goals (try exact h.elim)
    rename_i _ hy _ ti hti _ E0 hu
    have hT := (htb T ti hti).u
    rw [hu] at hT
    have hT' : P.underlying T = some (.slice E0) := hT
    unfold nilBoth at h
    split at h
    · refine fin h fun p E H w a' b' hr hh h1 h2 => ?_
      rw [hx] at h1; rw [hy] at h2
      rw [rep_val h1, rep_val h2]
      exact ⟨eqGuard_slice w, run_eql_nil_slice w T E0 none 0 0 0 0 hT'⟩
    · refine fin h fun p E H w a' b' hr hh h1 h2 => ?_
      rw [hx] at h1; rw [hy] at h2
      rw [rep_val h1, rep_val h2]
      exact ⟨eqGuard_slice w, run_neq_nil_slice w T E0 none 0 0 0 0 hT'⟩
    · exact h.elim
  · rename_i r ver sz off n hx
    repeat' (split at h; rotate_left; (try exact h.elim))
    all_goals (try exact h.elim)
    rename_i _ hy _ ti hti _ E0 hu
    have hT := (htb T ti hti).u
    rw [hu] at hT
    have hT' : P.underlying T = some (.slice E0) := hT
    obtain ⟨Ψ, h, hc⟩ := curK_sound h
    have hsome : ∀ {E : Env} {H : List Ent} {w : World} {a' : Value}, Ψ → 0 < n → HR E w H → (∀ (r : Nat) (e : Ent), hg r = some e → H[r]? = some e) → rep E w (ev x) a' → ∃ ad c, a' = .slice (some ad) n c := by
      intro E H w a' p1 p2 hr hh h1
      rw [hx, rep] at h1
      obtain ⟨a, c, rfl, h3, h4, h5, h6⟩ := h1.2 (hc p1 E H w hr hh)
      cases a with
      | none => have := h5 rfl; omega
      | some ad => exact ⟨ad, c, rfl⟩
    unfold nilTest at h
    split at h
    · refine fin h fun p E H w a' b' hr hh h1 h2 => ?_
      obtain ⟨ad, c, rfl⟩ := hsome p.1 p.2 hr hh h1
      rw [hy] at h2
      rw [rep_val h2]
      exact ⟨eqGuard_slice w, Lib.run_eql_slice_nil w T E0 (some ad) n c 0 0 hT'⟩
    · refine fin h fun p E H w a' b' hr hh h1 h2 => ?_
      obtain ⟨ad, c, rfl⟩ := hsome p.1 p.2 hr hh h1
      rw [hy] at h2
      rw [rep_val h2]
      exact ⟨eqGuard_slice w, run_neq_slice_nil_any w T E0 (some ad) n c 0 0 hT'⟩
    · exact h.elim
  · rename_i z l hx
    repeat' (split at h; rotate_left; (try exact h.elim))
    all_goals (try exact h.elim)
    rename_i _ hy _ ti hti _ E0 hu
    have hT := (htb T ti hti).u
    rw [hu] at hT
    have hT' : P.underlying T = some (.slice E0) := hT
    have hsome : ∀ {E : Env} {w : World} {a' : Value}, 0 < l.length → rep E w (ev x) a' → ∃ ad n c, a' = .slice (some ad) n c := by
      intro E w a' p2 h1
      rw [hx, rep] at h1
      obtain ⟨a, n, c, rfl, h3, h4, h5, h6, h7⟩ := h1
      cases a with
      | none => have := h6 rfl; omega
      | some ad => exact ⟨ad, _, c, rfl⟩
    unfold nilTest at h
    split at h
    · refine fin h fun p E H w a' b' hr hh h1 h2 => ?_
      obtain ⟨ad, n, c, rfl⟩ := hsome p h1
      rw [hy] at h2
      rw [rep_val h2]
      exact ⟨eqGuard_slice w, Lib.run_eql_slice_nil w T E0 (some ad) n c 0 0 hT'⟩
    · refine fin h fun p E H w a' b' hr hh h1 h2 => ?_
      obtain ⟨ad, n, c, rfl⟩ := hsome p h1
      rw [hy] at h2
      rw [rep_val h2]
      exact ⟨eqGuard_slice w, run_neq_slice_nil_any w T E0 (some ad) n c 0 0 hT'⟩
    · exact h.elim
  · exact h.elim
/-! one operand -/
def unK (op : UnOp) (x : AV) (K : KF) : Prop := match x with
  | .val (.bool b) => match op with
    | .not => K True (.val (.bool (!b))) []
    | _ => False
  | .val (.int k a) => match op with
    | .neg => ar k (0 - a) fun Φ v => K Φ v []
    | .xor => match k with
      | .u8 => K (0 ≤ a ∧ a ≤ 255) (.val (.int .u8 (255 - a))) []
      | .u32 => K (0 ≤ a ∧ a ≤ 4294967295) (.val (.int .u32 (4294967295 - a))) []
      | .u64 => K (0 ≤ a ∧ a ≤ 18446744073709551615) (.val (.int .u64 (18446744073709551615 - a))) []
      | _ => False
    | _ => False
  | _ => False
theorem xor_all (n : Nat) {a : Nat} (h : a < 2 ^ n) : (2 ^ n - 1) ^^^ a = 2 ^ n - 1 - a := by
  apply Nat.eq_of_testBit_eq
  intro i
  rw [Nat.testBit_xor, Nat.testBit_two_pow_sub_one]
  have : 2 ^ n - 1 - a = 2 ^ n - (a + 1) := by omega
  rw [this, Nat.testBit_two_pow_sub_succ h]
  by_cases hi : i < n
  · simp [hi]
  · have : a.testBit i = false := Nat.testBit_lt_two_pow (Nat.lt_of_lt_of_le h (Nat.pow_le_pow_right (by decide) (by omega)))
    simp [hi, this]
theorem unary_xor {k : IntKind} (hs : k.signed = false) {a : Int} (h0 : 0 ≤ a) (h1 : inK k a) (w : World) : (Op.unary .xor (.int k a)).run P w = .ok (.int k (k.max - a)) w := by
  have hlt := inK_lt h1 h0
  have hm : inK k k.max := by cases k <;> simp [IntKind.max, IntKind.signed, IntKind.bits, inK] at hs ⊢
  have hm0 : (0 : Int) ≤ k.max := by cases k <;> simp [IntKind.max, IntKind.signed, IntKind.bits] at hs ⊢
  have hmx : k.max.toNat = 2 ^ k.bits - 1 := by cases k <;> simp [IntKind.max, IntKind.signed, IntKind.bits] at hs ⊢ <;> rfl
  have e : k.wrap ((BitVec.ofInt k.bits k.max ^^^ BitVec.ofInt k.bits a).toNat : Int) = k.max - a := by
    rw [BitVec.toNat_xor, ofInt_toNat hm hm0, ofInt_toNat h1 h0, hmx, xor_all _ hlt]
    rw [wrap_nat (by omega) (fun h => by rw [hs] at h; cases h)]
    omega
  simp only [Op.unary, hs, Op.intBits, Bool.false_eq_true, if_false, Sem.run_pure, e]
theorem un_sound {op : UnOp} {T : TypeId} {x : Operand} (ho : o.op = .unOp op T x) {K : KF} (h : unK op (ev x) K) : ∃ Φ v us, K Φ v us ∧ Snd P o ev hg Φ v us := by
  have fin : ∀ {Φ : Prop} {u u' : Value}, K Φ (.val u) [] → ev x = .val u' → (Φ → ∀ w, (Op.unary op u').run P w = .ok u w) → ∃ Φ v us, K Φ v us ∧ Snd P o ev hg Φ v us := by
    intro Φ u u' hK hx hrun
    refine ⟨Φ, _, [], hK, Snd.pure fun p E H w ρv hr hh hops => ?_⟩
    have h1 := hops x (by rw [ho]; simp [opnds])
    rw [hx] at h1
    have h1 := rep_val h1
    refine ⟨u, ?_, by rw [rep]⟩
    unfold execOp
    simp only [ho, h1, Sem.run_bind, hrun p w, Result.andThen_ok, Sem.run_pure]
  unfold unK at h
  split at h
  · rename_i b hx
    split at h
    · exact fin h hx fun p w => rfl
    · exact h.elim
  · rename_i k a hx
    split at h
    · obtain ⟨Φ, m, h1, h2⟩ := ar_sound h
      exact fin h1 hx fun p w => by simp only [Op.unary, Op.intArith, h2 p, Sem.run_pure]
    · split at h
      · exact fin h hx fun p w => by have h9 := unary_xor (P := P) (k := .u8) rfl p.1 ⟨p.1, p.2⟩ w; simpa [IntKind.max, IntKind.signed, IntKind.bits] using h9
      · exact fin h hx fun p w => by have h9 := unary_xor (P := P) (k := .u32) rfl p.1 ⟨p.1, p.2⟩ w; simpa [IntKind.max, IntKind.signed, IntKind.bits] using h9
      · exact fin h hx fun p w => by have h9 := unary_xor (P := P) (k := .u64) rfl p.1 ⟨p.1, p.2⟩ w; simpa [IntKind.max, IntKind.signed, IntKind.bits] using h9
      · exact h.elim
    · exact h.elim
  · exact h.elim
/-! conversions of numbers -/
def convK (tb : TypeId → Option TI) (S T : TypeId) (x : AV) (K : KF) : Prop := match x with
  | .val (.int _ n) => match tb S with
    | some si => match tb T with
      | some ti => match si.u with
        | .int _ => match ti.u with
          | .int k => ar k n fun Φ v => K Φ v []
          | _ => False
        | _ => False
      | none => False
    | none => False
  | _ => False
theorem conv_sound {tb : TypeId → Option TI} (htb : TbOk P tb) {S T : TypeId} {x : Operand} (ho : o.op = .convert S T x) {K : KF} (h : convK tb S T (ev x) K) : ∃ Φ v us, K Φ v us ∧ Snd P o ev hg Φ v us := by
  unfold convK at h
  repeat' (split at h; rotate_left; (try exact h.elim))
  all_goals (try exact h.elim)
  rename_i _ k0 n hx _ si hsi _ ti hti _ k1 hu1 _ k hu
  have hS := (htb S si hsi).u
  have hT := (htb T ti hti).u
  rw [hu1] at hS; rw [hu] at hT
  have hS' : P.underlying S = some (.int k1) := hS
  have hT' : P.underlying T = some (.int k) := hT
  obtain ⟨Φ, m, h1, h2⟩ := ar_sound h
  refine ⟨Φ, _, [], h1, Snd.pure fun p E H w ρv hr hh hops => ?_⟩
  have hv := hops x (by rw [ho]; simp [opnds])
  rw [hx] at hv
  have hv := rep_val hv
  refine ⟨_, ?_, by rw [rep]⟩
  unfold execOp
  simp only [ho, hv, Sem.run_bind]
  unfold convert
  simp [Sem.run_bind, run_underlying hS', run_underlying hT', Conv.intToInt, h2 p]
/-! copies -/
theorem move_sound {x : Operand} (ho : o.op = .move x ∨ o.op = .assign x) {K : KF} (h : K True (ev x) []) : ∃ Φ v us, K Φ v us ∧ Snd P o ev hg Φ v us := by
  refine ⟨_, _, _, h, Snd.pure fun p E H w ρv hr hh hops => ⟨ρv x, ?_, hops x (by rcases ho with ho | ho <;> rw [ho] <;> simp [opnds])⟩⟩
  rcases ho with ho | ho
  · exact exec_move ho rfl
  · exact exec_assign ho rfl
def extractK (x : AV) (i : Nat) (K : KF) : Prop := match x with
  | .tup l => K (i < l.length) (getA l i) []
  | _ => False
theorem getA_eq {l : List AV} {i : Nat} (h : i < l.length) : l[i]? = some (getA l i) := by
  unfold getA
  rw [getL_eq, List.getElem?_eq_getElem h]
theorem extract_sound {x : Operand} {i : Nat} (ho : o.op = .extract x i) {K : KF} (h : extractK (ev x) i K) : ∃ Φ v us, K Φ v us ∧ Snd P o ev hg Φ v us := by
  unfold extractK at h
  split at h
  · rename_i l hx
    refine ⟨_, _, _, h, Snd.pure fun p E H w ρv hr hh hops => ?_⟩
    have hv := hops x (by rw [ho]; simp [opnds])
    rw [hx, rep] at hv
    obtain ⟨cs, hv, hcs⟩ := hv
    obtain ⟨u, hu, hru⟩ := (reps_get hcs).2 i _ (getA_eq p)
    refine ⟨u, ?_, hru⟩
    unfold execOp
    simp [ho, hv, Instr.extract, hu]
  · exact h.elim
def fieldK (tb : TypeId → Option TI) (T : TypeId) (x : AV) (k : Nat) (K : KF) : Prop :=
  fieldOf tb T k fun off fi _ => match x with
    | .agg l => cvK fi (dropL l off) fun Φ v => K Φ v []
    | _ => False
theorem field_sound {tb : TypeId → Option TI} (htb : TbOk P tb) {T : TypeId} {x : Operand} {k : Nat} (ho : o.op = .field T x k) {K : KF} (h : fieldK tb T (ev x) k K) : ∃ Φ v us, K Φ v us ∧ Snd P o ev hg Φ v us := by
  obtain ⟨off, fi, flds, f, h, hu, hf, hoff, hfi⟩ := fieldOf_sound htb h
  split at h
  · rename_i l hx
    obtain ⟨Φ, v, h, hl⟩ := cv_load hfi h
    refine ⟨_, _, _, h, Snd.pure fun p E H w ρv hr hh hops => ?_⟩
    have hv := hops x (by rw [ho]; simp [opnds])
    rw [hx, rep] at hv
    obtain ⟨cs, hv, hcs⟩ := hv
    obtain ⟨cv, h1, h2, _⟩ := hl p E w cs hcs
    refine ⟨cv, ?_, h1⟩
    unfold execOp
    simp only [ho, hv]
    unfold Instr.field
    simp [Sem.run_bind, run_underlying hu, hf, hoff, asAgg, h2]
  · exact h.elim
/-- the operands of a list -/
theorem reps_map {E : Env} {w : World} {ρv : Operand → Value} : ∀ (l : List Operand), (∀ x ∈ l, rep E w (ev x) (ρv x)) → reps E w (l.map ev) (l.map ρv)
  | [], _ => by simp [reps]
  | x :: l, h => by
    simp only [List.map_cons, reps]
    exact ⟨_, _, rfl, h x (by simp), reps_map l (fun y hy => h y (by simp [hy]))⟩
theorem makeFunc_sound {f : FuncId} {caps : Array Operand} (ho : o.op = .makeFunc (.func f) #[] caps) {K : KF} (h : K True (.clo f (caps.toList.map ev)) []) : ∃ Φ v us, K Φ v us ∧ Snd P o ev hg Φ v us := by
  refine ⟨_, _, _, h, Snd.pure fun p E H w ρv hr hh hops => ?_⟩
  refine ⟨.func (.func f) #[] (caps.map ρv), ?_, ?_⟩
  · unfold execOp
    simp [ho, Instr.makeFunc, Sem.run_pure]
  · rw [rep]
    refine ⟨caps.toList.map ρv, by congr 1; apply Array.ext'; simp, reps_map _ (fun x hx => hops x (by rw [ho]; exact hx))⟩
/-! builtins of values -/
def lenK (tb : TypeId → Option TI) (T : TypeId) (x : AV) (K : KF) : Prop := match tb T with
  | some ti => match ti.u with
    | .slice _ => match x with
      | .own r ver _ _ n => curK hg r ver fun Φ => K Φ (.val (.int .i64 (n : Int))) []
      | .bs _ l => K True (.val (.int .i64 (l.length : Int))) []
      | .sl _ _ _ _ l => K True (.val (.int .i64 (l.length : Int))) []
      | .val (.slice none 0 0) => K True (.val (.int .i64 0)) []
      | _ => False
    | .string => match x with
      | .val (.string s) => K True (.val (.int .i64 (s.size : Int))) []
      | _ => False
    | _ => False
  | none => False
theorem len_sound {tb : TypeId → Option TI} (htb : TbOk P tb) {T : TypeId} {x : Operand} (ho : o.op = .call { callee := .builtin .len, args := #[x], argTypes := #[T] }) {K : KF} (h : lenK (hg := hg) tb T (ev x) K) : ∃ Φ v us, K Φ v us ∧ Snd P o ev hg Φ v us := by
  have hopx : ∀ {E : Env} {w : World} {ρv : Operand → Value}, (∀ x ∈ opnds o.op, rep E w (ev x) (ρv x)) → rep E w (ev x) (ρv x) := by
    intro E w ρv hops; exact hops x (by rw [ho]; simp [opnds])
  have hex : ∀ {w : World} {ρv : Operand → Value} {v : Value}, (Builtin.len_ #[T] o.type #[ρv x]).run P w = .ok v w → (execOp ρv o).run P w = .ok (.value v) w := by
    intro w ρv v hr
    unfold execOp
    simp only [ho, resolve, invoke, builtin, Sem.run_bind, Sem.run_pure, Result.andThen_ok, List.map_toArray, List.map_cons, List.map_nil, hr]
  unfold lenK at h
  split at h
  rotate_left
  · exact h.elim
  rename_i ti hti
  have hT := (htb T ti hti).u
  split at h
  · rename_i E0 hu
    rw [hu] at hT
    have hT' : P.underlying T = some (.slice E0) := hT
    have hsl : ∀ (w : World) (a : Option Addr) (n c : Nat), (Builtin.len_ #[T] o.type #[.slice a n c]).run P w = .ok (.int .i64 n) w := by
      intro w a n c
      simp [Builtin.len_, Sem.run_bind, run_underlying hT', goInt]
    split at h
    · rename_i r ver sz off n hx
      obtain ⟨Φ, h, hc⟩ := curK_sound h
      refine ⟨_, _, _, h, Snd.pure fun p E H w ρv hr hh hops => ?_⟩
      have hv := hopx hops
      rw [hx, rep] at hv
      obtain ⟨a, c, hv, _⟩ := hv.2 (hc p E H w hr hh)
      exact ⟨_, hex (by rw [hv]; exact hsl w a n c), by rw [rep]⟩
    · rename_i z l hx
      refine ⟨_, _, _, h, Snd.pure fun p E H w ρv hr hh hops => ?_⟩
      have hv := hopx hops
      rw [hx, rep] at hv
      obtain ⟨a, n, c, hv, rfl, _⟩ := hv
      exact ⟨_, hex (by rw [hv]; exact hsl w a _ c), by rw [rep]⟩
    · rename_i z sz α f d l hx
      refine ⟨_, _, _, h, Snd.pure fun p E H w ρv hr hh hops => ?_⟩
      have hv := hopx hops
      rw [hx, rep] at hv
      obtain ⟨a, n, c, hv, rfl, _⟩ := hv
      exact ⟨_, hex (by rw [hv]; exact hsl w a _ c), by rw [rep]⟩
    · rename_i hx
      refine ⟨_, _, _, h, Snd.pure fun p E H w ρv hr hh hops => ?_⟩
      have hv := hopx hops
      rw [hx] at hv
      exact ⟨_, hex (by rw [rep_val hv]; exact hsl w none 0 0), by rw [rep]; rfl⟩
    · exact h.elim
  · rename_i hu
    rw [hu] at hT
    have hT' : P.underlying T = some .string := hT
    split at h
    · rename_i s hx
      refine ⟨_, _, _, h, Snd.pure fun p E H w ρv hr hh hops => ?_⟩
      have hv := hopx hops
      rw [hx] at hv
      refine ⟨_, hex (v := .int .i64 s.size) ?_, by rw [rep]⟩
      rw [rep_val hv]
      simp [Builtin.len_, Sem.run_bind, run_underlying hT', goInt]
    · exact h.elim
  · exact h.elim
def min2K (mx : Bool) (x y : AV) (K : KF) : Prop := match x with
  | .val (.int k a) => match y with
    | .val (.int _ b) => K True (.val (.int k (if mx then max a b else min a b))) []
    | _ => False
  | _ => False
end
end Go.Proofs.Ytjfenbkhgamidaa
