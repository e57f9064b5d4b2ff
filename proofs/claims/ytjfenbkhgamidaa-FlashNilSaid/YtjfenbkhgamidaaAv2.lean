/- Abstract values: what the operations that touch no memory make of them. Conditions: what 'TIok' says of the types. -/
import Derived.Test.YtjfenbkhgamidaaAv1
namespace Go.Proofs.Ytjfenbkhgamidaa
set_option linter.unusedVariables false
inductive UK where
  | int (k : IntKind) | bool | string | ptr (E : TypeId) | slice (E : TypeId) | array (n : Nat) (E : TypeId) | struct (fs : List (Nat × TypeId)) | func | other
structure TI where
  u : UK
  sz : Nat
  bytes : Nat
  zero : List Value
def UK.ok (P : Program) (t : TypeId) : UK → Prop
  | .int k => P.underlying t = some (.int k)
  | .bool => P.underlying t = some .bool
  | .string => P.underlying t = some .string
  | .ptr E => P.underlying t = some (.pointer E)
  | .slice E => P.underlying t = some (.slice E)
  | .array n E => P.underlying t = some (.array n E)
  | .struct fs => ∃ flds, P.underlying t = some (.struct flds) ∧ flds.toList.map (fun f => (f.offset, f.type)) = fs
  | .func => ∃ a b c, P.underlying t = some (.func a b c)
  | .other => True
def UK.isAgg : UK → Bool
  | .struct _ | .array _ _ => true
  | _ => false
structure TIok (P : Program) (t : TypeId) (ti : TI) : Prop where
  u : ti.u.ok P t
  info : ∃ z, (P.info? t).map (fun i => (i.zero, i.size, i.bytes)) = some (some z, ti.sz, ti.bytes) ∧ z.cells.toList = ti.zero
  zsz : ti.zero.length = ti.sz
def TbOk (P : Program) (tb : TypeId → Option TI) : Prop := ∀ t ti, tb t = some ti → TIok P t ti

def getL {α : Type 1} : List α → Nat → Option α
  | [], _ => none
  | x :: _, 0 => some x
  | _ :: l, n + 1 => getL l n
theorem getL_eq {α : Type 1} : ∀ (l : List α) (i : Nat), getL l i = l[i]?
  | [], _ => rfl
  | _ :: _, 0 => rfl
  | _ :: l, i + 1 => by simpa [getL] using getL_eq l i
def getA (l : List AV) (i : Nat) : AV := match getL l i with | some x => x | none => .any
def setL {α : Type 1} : List α → Nat → α → List α
  | [], _, _ => []
  | _ :: l, 0, v => v :: l
  | x :: l, n + 1, v => x :: setL l n v
theorem setL_eq {α : Type 1} : ∀ (l : List α) (i : Nat) (v : α), setL l i v = l.set i v
  | [], _, _ => rfl
  | _ :: _, 0, _ => rfl
  | _ :: l, i + 1, v => by simp [setL, setL_eq l i v]
def dropL {α : Type 1} : List α → Nat → List α
  | l, 0 => l
  | [], _ + 1 => []
  | _ :: l, n + 1 => dropL l n
theorem dropL_eq {α : Type 1} : ∀ (l : List α) (i : Nat), dropL l i = l.drop i
  | _, 0 => by simp [dropL]
  | [], _ + 1 => by simp [dropL]
  | _ :: l, i + 1 => by simp [dropL, dropL_eq l i]
def takeL {α : Type 1} : List α → Nat → List α
  | _, 0 => []
  | [], _ + 1 => []
  | x :: l, n + 1 => x :: takeL l n
theorem takeL_eq {α : Type 1} : ∀ (l : List α) (i : Nat), takeL l i = l.take i
  | _, 0 => by simp [takeL]
  | [], _ + 1 => by simp [takeL]
  | _ :: l, i + 1 => by simp [takeL, takeL_eq l i]

/-! integers -/
def inK (k : IntKind) (n : Int) : Prop := match k with
  | .i8 => -128 ≤ n ∧ n ≤ 127
  | .i16 => -32768 ≤ n ∧ n ≤ 32767
  | .i32 => -2147483648 ≤ n ∧ n ≤ 2147483647
  | .i64 => -9223372036854775808 ≤ n ∧ n ≤ 9223372036854775807
  | .u8 => 0 ≤ n ∧ n ≤ 255
  | .u16 => 0 ≤ n ∧ n ≤ 65535
  | .u32 => 0 ≤ n ∧ n ≤ 4294967295
  | .u64 => 0 ≤ n ∧ n ≤ 18446744073709551615
theorem wrap_in {k : IntKind} {n : Int} (h : inK k n) : k.wrap n = n := by
  cases k <;> simp only [inK] at h <;> simp [IntKind.wrap, IntKind.signed, IntKind.bits] <;> omega
theorem wrap_u8 (n : Int) : IntKind.u8.wrap n = n % 256 := by simp [IntKind.wrap, IntKind.signed, IntKind.bits]
theorem wrap_u16 (n : Int) : IntKind.u16.wrap n = n % 65536 := by simp [IntKind.wrap, IntKind.signed, IntKind.bits]
theorem wrap_u32 (n : Int) : IntKind.u32.wrap n = n % 4294967296 := by simp [IntKind.wrap, IntKind.signed, IntKind.bits]
theorem wrap_u64 (n : Int) : IntKind.u64.wrap n = n % 18446744073709551616 := by simp [IntKind.wrap, IntKind.signed, IntKind.bits]
abbrev KF := Prop → AV → List (Nat × Ent) → Prop
/-- a number that is brought into a kind's range -/
def ar (k : IntKind) (n : Int) (K : Prop → AV → Prop) : Prop := match k with
  | .i64 => K (inK .i64 n) (.val (.int .i64 n))
  | .u8 => K True (.val (.int .u8 (n % 256)))
  | .u16 => K True (.val (.int .u16 (n % 65536)))
  | .u32 => K True (.val (.int .u32 (n % 4294967296)))
  | .u64 => K True (.val (.int .u64 (n % 18446744073709551616)))
  | k => K True (.val (.int k (k.wrap n)))
theorem ar_sound {k : IntKind} {n : Int} {K : Prop → AV → Prop} (h : ar k n K) : ∃ Φ m, K Φ (.val (.int k m)) ∧ (Φ → k.wrap n = m) := by
  cases k <;> simp only [ar] at h
  case i64 => exact ⟨_, _, h, fun p => wrap_in p⟩
  case u8 => exact ⟨_, _, h, fun _ => wrap_u8 n⟩
  case u16 => exact ⟨_, _, h, fun _ => wrap_u16 n⟩
  case u32 => exact ⟨_, _, h, fun _ => wrap_u32 n⟩
  case u64 => exact ⟨_, _, h, fun _ => wrap_u64 n⟩
  all_goals exact ⟨_, _, h, fun _ => rfl⟩
/-- an operation of two integers of a kind -/
def intK (op : BinOp) (k : IntKind) (a b : Int) (K : Prop → AV → Prop) : Prop := match op with
  | .add => ar k (a + b) K
  | .sub => ar k (a - b) K
  | .mul => ar k (a * b) K
  | .quo => K (0 ≤ a ∧ inK k a ∧ 0 < b) (.val (.int k (a / b)))
  | .rem => K (0 ≤ a ∧ inK k a ∧ 0 < b) (.val (.int k (a % b)))
  | .and => K (0 ≤ a ∧ 0 ≤ b ∧ inK k a ∧ inK k b) (.val (.int k ((a.toNat &&& b.toNat : Nat) : Int)))
  | .or => K (0 ≤ a ∧ 0 ≤ b ∧ inK k a ∧ inK k b) (.val (.int k ((a.toNat ||| b.toNat : Nat) : Int)))
  | .xor => K (0 ≤ a ∧ 0 ≤ b ∧ inK k a ∧ inK k b) (.val (.int k ((a.toNat ^^^ b.toNat : Nat) : Int)))
  | .eql => K True (.val (.bool (decide (a = b))))
  | .neq => K True (.val (.bool (!decide (a = b))))
  | .lss => K True (.val (.bool (decide (a < b))))
  | .leq => K True (.val (.bool (decide (a ≤ b))))
  | .gtr => K True (.val (.bool (decide (b < a))))
  | .geq => K True (.val (.bool (decide (b ≤ a))))
  | _ => False
def kb (k : IntKind) : Nat := k.bits
theorem inK_lt {k : IntKind} {a : Int} (h : inK k a) (h0 : 0 ≤ a) : a.toNat < 2 ^ k.bits := by
  cases k <;> simp only [inK] at h <;> simp only [IntKind.bits] <;> omega
theorem inK_half {k : IntKind} {a : Int} (h : inK k a) (h0 : 0 ≤ a) (hs : k.signed = true) : a.toNat < 2 ^ (k.bits - 1) := by
  cases k <;> simp only [inK] at h <;> simp only [IntKind.bits] <;> simp [IntKind.signed] at hs <;> omega
theorem wrap_nat {k : IntKind} {n : Nat} (h : n < 2 ^ k.bits) (hs : k.signed = true → n < 2 ^ (k.bits - 1)) : k.wrap n = n := by
  apply wrap_in
  cases k <;> simp [IntKind.bits, IntKind.signed] at h hs <;> simp only [inK] <;> omega
theorem ofInt_toNat {k : IntKind} {a : Int} (h : inK k a) (h0 : 0 ≤ a) : (BitVec.ofInt k.bits a).toNat = a.toNat := by
  have h1 := inK_lt h h0
  rw [BitVec.toNat_ofInt]
  cases k <;> simp only [IntKind.bits] at h1 ⊢ <;> omega
variable {P : Program}
theorem intK_sound {op : BinOp} {k : IntKind} {a b : Int} {K : Prop → AV → Prop} (T : TypeId) (h : intK op k a b K) :
    ∃ Φ u, K Φ (.val u) ∧ (Φ → ∀ w, (binOp op T (.int k a) (.int k b)).run P w = .ok u w) := by
  cases op <;> simp only [intK] at h
  case add => obtain ⟨Φ, m, h1, h2⟩ := ar_sound h; exact ⟨Φ, _, h1, fun p w => by simp [binOp, Op.intArith, h2 p]⟩
  case sub => obtain ⟨Φ, m, h1, h2⟩ := ar_sound h; exact ⟨Φ, _, h1, fun p w => by simp [binOp, Op.intArith, h2 p]⟩
  case mul => obtain ⟨Φ, m, h1, h2⟩ := ar_sound h; exact ⟨Φ, _, h1, fun p w => by simp [binOp, Op.intArith, h2 p]⟩
  case quo => exact ⟨_, _, h, fun p w => by
    obtain ⟨h0, h1, h2⟩ := p
    have e : a.tdiv b = a / b := Int.tdiv_eq_ediv_of_nonneg h0
    have hd : 0 ≤ a / b := Int.ediv_nonneg h0 (by omega)
    have hle : a / b ≤ a := Int.ediv_le_self _ h0
    have hk : inK k (a / b) := by cases k <;> simp only [inK] at h1 ⊢ <;> omega
    have hb : ¬ b = 0 := by omega
    simp [binOp, Op.intDiv, hb, e, wrap_in hk]⟩
  case rem => exact ⟨_, _, h, fun p w => by
    obtain ⟨h0, h1, h2⟩ := p
    have e : a.tmod b = a % b := Int.tmod_eq_emod_of_nonneg h0
    have hb : ¬ b = 0 := by omega
    simp [binOp, Op.intDiv, hb, e]⟩
  case and => exact ⟨_, _, h, fun p w => by
    obtain ⟨h0, h1, h2, h3⟩ := p
    have e : k.wrap ((BitVec.ofInt k.bits a &&& BitVec.ofInt k.bits b).toNat : Int) = ((a.toNat &&& b.toNat : Nat) : Int) := by
      rw [BitVec.toNat_and, ofInt_toNat h2 h0, ofInt_toNat h3 h1]
      exact wrap_nat (Nat.and_lt_two_pow _ (inK_lt h3 h1)) (fun hs => Nat.and_lt_two_pow _ (inK_half h3 h1 hs))
    simp only [binOp, ne_eq, not_true_eq_false, if_false, Op.intBits, Sem.run_pure, e]⟩
  case or => exact ⟨_, _, h, fun p w => by
    obtain ⟨h0, h1, h2, h3⟩ := p
    have e : k.wrap ((BitVec.ofInt k.bits a ||| BitVec.ofInt k.bits b).toNat : Int) = ((a.toNat ||| b.toNat : Nat) : Int) := by
      rw [BitVec.toNat_or, ofInt_toNat h2 h0, ofInt_toNat h3 h1]
      exact wrap_nat (Nat.or_lt_two_pow (inK_lt h2 h0) (inK_lt h3 h1)) (fun hs => Nat.or_lt_two_pow (inK_half h2 h0 hs) (inK_half h3 h1 hs))
    simp only [binOp, ne_eq, not_true_eq_false, if_false, Op.intBits, Sem.run_pure, e]⟩
  case xor => exact ⟨_, _, h, fun p w => by
    obtain ⟨h0, h1, h2, h3⟩ := p
    have e : k.wrap ((BitVec.ofInt k.bits a ^^^ BitVec.ofInt k.bits b).toNat : Int) = ((a.toNat ^^^ b.toNat : Nat) : Int) := by
      rw [BitVec.toNat_xor, ofInt_toNat h2 h0, ofInt_toNat h3 h1]
      exact wrap_nat (Nat.xor_lt_two_pow (inK_lt h2 h0) (inK_lt h3 h1)) (fun hs => Nat.xor_lt_two_pow (inK_half h2 h0 hs) (inK_half h3 h1 hs))
    simp only [binOp, ne_eq, not_true_eq_false, if_false, Op.intBits, Sem.run_pure, e]⟩
  case eql => exact ⟨_, _, h, fun p w => by simp only [binOp, ne_eq, not_true_eq_false, if_false, Op.intCmp, Sem.run_pure]; rfl⟩
  case neq => exact ⟨_, _, h, fun p w => by simp only [binOp, ne_eq, not_true_eq_false, if_false, Op.intCmp, Sem.run_pure]; rfl⟩
  case lss => exact ⟨_, _, h, fun p w => by simp only [binOp, ne_eq, not_true_eq_false, if_false, Op.intCmp, Sem.run_pure]⟩
  case leq => exact ⟨_, _, h, fun p w => by simp only [binOp, ne_eq, not_true_eq_false, if_false, Op.intCmp, Sem.run_pure]⟩
  case gtr => exact ⟨_, _, h, fun p w => by simp only [binOp, ne_eq, not_true_eq_false, if_false, Op.intCmp, Sem.run_pure]⟩
  case geq => exact ⟨_, _, h, fun p w => by simp only [binOp, ne_eq, not_true_eq_false, if_false, Op.intCmp, Sem.run_pure]⟩
  all_goals exact h.elim
/-- shifts -/
def shK (op : BinOp) (k : IntKind) (a b : Int) (K : Prop → AV → Prop) : Prop := match op with
  | .shr => K (0 ≤ a ∧ inK k a ∧ 0 ≤ b) (.val (.int k (a / 2 ^ b.toNat)))
  | .shl => ar k (a * 2 ^ b.toNat) fun Φ v => K (Φ ∧ 0 ≤ b ∧ b ≤ k.bits) v
  | _ => False
theorem shK_sound {op : BinOp} {k k' : IntKind} {a b : Int} {K : Prop → AV → Prop} (T : TypeId) (h : shK op k a b K) :
    ∃ Φ u, K Φ (.val u) ∧ (Φ → ∀ w, (binOp op T (.int k a) (.int k' b)).run P w = .ok u w) := by
  cases op <;> simp only [shK] at h
  case shl =>
    obtain ⟨Φ, m, h1, h2⟩ := ar_sound h
    refine ⟨_, _, h1, fun p w => ?_⟩
    obtain ⟨p1, p2, p3⟩ := p
    have hb : ¬ b < 0 := by omega
    have e : min b.toNat k.bits = b.toNat := by omega
    simp [binOp, Op.shift, hb, e, h2 p1]
  case shr =>
    refine ⟨_, _, h, fun p w => ?_⟩
    obtain ⟨p1, p2, p3⟩ := p
    have hb : ¬ b < 0 := by omega
    have e : a.fdiv (2 ^ min b.toNat k.bits) = a / 2 ^ b.toNat := by
      rw [Int.fdiv_eq_ediv_of_nonneg _ (by have := Int.pow_pos (n := 2) (m := min b.toNat k.bits) (by decide); omega)]
      by_cases hle : b.toNat ≤ k.bits
      · rw [Nat.min_eq_left hle]
      · rw [Nat.min_eq_right (by omega)]
        have hlt := inK_lt p2 p1
        have h1 : a < 2 ^ k.bits := by
          have : ((a.toNat : Nat) : Int) < ((2 ^ k.bits : Nat) : Int) := by exact_mod_cast hlt
          rw [Int.toNat_of_nonneg p1] at this
          simpa using this
        have h2 : (2 : Int) ^ k.bits ≤ 2 ^ b.toNat := by
          have : (2 ^ k.bits : Nat) ≤ 2 ^ b.toNat := Nat.pow_le_pow_right (by decide) (by omega)
          exact_mod_cast this
        rw [Int.ediv_eq_zero_of_lt p1 h1, Int.ediv_eq_zero_of_lt p1 (by omega)]
    simp [binOp, Op.shift, hb, e]
  all_goals exact h.elim
end Go.Proofs.Ytjfenbkhgamidaa
