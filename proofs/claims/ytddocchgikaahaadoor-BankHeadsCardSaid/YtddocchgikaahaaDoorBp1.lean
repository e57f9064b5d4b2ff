/- What records make of a bank's bytes: the plain law of scan. Conditions: the premises of each law. -/
import Derived.Test.YtddocchgikaahaaDoorBk13
namespace Go.Proofs.YtddocchgikaahaaDoor
set_option linter.unusedVariables false
set_option linter.unusedSimpArgs false
theorem numB_leB (m : Nat) : ∀ n : Nat, numB (leB n (m : Int)) = m % 256 ^ n
  | 0 => by simp [leB, numB, Nat.mod_one]
  | n + 1 => by
    rw [leB_succ, numB_snoc, numB_leB m n, leB_len, Nat.mod_pow_succ]
    have e : ((8 * (n : Int)).toNat) = 8 * n := by omega
    have h : ((m : Int) / 2 ^ (8 * (n : Int)).toNat % 256).toNat = m / 256 ^ n % 256 := by
      rw [e, show (2 : Int) ^ (8 * n) = ((256 ^ n : Nat) : Int) by rw [show (256 : Nat) = 2 ^ 8 by rfl, ← Nat.pow_mul]; simp]
      omega
    rw [h]
    have h2 : (UInt8.ofNat (m / 256 ^ n % 256)).toNat = m / 256 ^ n % 256 := by
      rw [UInt8.toNat_ofNat']; omega
    rw [h2]; omega
/-- a record's bytes -/
def encR (c : Rc) : List UInt8 := (if c.lv then 252 else 248) :: layB c.key c.val
def lenR (c : Rc) : Nat := 12 + c.key.length + c.val.length
structure OkR (c : Rc) : Prop where
  k : 1 ≤ c.key.length ∧ c.key.length ≤ 255
  v : c.val.length ≤ 65536
theorem encR_len (c : Rc) : (encR c).length = lenR c := by
  simp only [encR, List.length_cons, layB_len, lenR]; omega
theorem encR_eq (c : Rc) : encR c = (if c.lv then 252 else 248) :: 165 :: (leB 2 c.key.length ++ (leB 4 c.val.length ++ (leB 4 (layC c.key c.val) ++ (c.key ++ c.val)))) := by
  simp [encR, layB, layH, layX]
theorem dec_enc (c : Rc) (h : OkR c) (y : List UInt8) : recIs (encR c ++ y) ∧ recN (encR c ++ y) = lenR c ∧ recKey (encR c ++ y) = c.key ∧ recVal (encR c ++ y) = c.val ∧ recLv (encR c ++ y) = c.lv := by
  have hk := h.k
  have hv := h.v
  have l2 := leB_len 2 c.key.length
  have l4 := leB_len 4 c.val.length
  have l4' := leB_len 4 (layC c.key c.val)
  have hK : recK (encR c ++ y) = c.key.length := by
    unfold recK
    rw [encR_eq]
    simp only [List.cons_append, List.drop_succ_cons, List.drop_zero, List.append_assoc]
    rw [List.take_append_of_le_length (by omega), List.take_of_length_le (by omega), numB_leB]
    exact Nat.mod_eq_of_lt (by omega)
  have hV : recV (encR c ++ y) = c.val.length := by
    unfold recV
    rw [encR_eq]
    simp only [List.cons_append, List.drop_succ_cons, List.append_assoc]
    rw [List.drop_append_of_le_length (by omega), show (leB 2 (c.key.length : Int)).drop 2 = [] from List.drop_of_length_le (by omega), List.nil_append, List.take_append_of_le_length (by omega), List.take_of_length_le (by omega), numB_leB]
    exact Nat.mod_eq_of_lt (by omega)
  have hN : recN (encR c ++ y) = lenR c := by unfold recN lenR; rw [hK, hV]
  have hlen := encR_len c
  have hpre : (encR c ++ y).take (lenR c) = encR c := by rw [List.take_append_of_le_length (by omega), List.take_of_length_le (by omega)]
  have hkey : recKey (encR c ++ y) = c.key := by
    unfold recKey
    rw [hK, encR_eq]
    simp only [List.cons_append, List.append_assoc]
    rw [show 12 + c.key.length = 10 + c.key.length + 1 + 1 by omega, List.take_succ_cons, List.take_succ_cons, show 12 = 10 + 1 + 1 by rfl, List.drop_succ_cons, List.drop_succ_cons]
    rw [← List.append_assoc (leB 2 _), ← List.append_assoc (leB 2 _ ++ _)]
    have hd : (leB 2 (c.key.length : Int) ++ leB 4 (c.val.length : Int) ++ leB 4 (layC c.key c.val)).length = 10 := by simp only [List.length_append]; omega
    rw [← hd, List.take_append, List.take_of_length_le (by omega), show (leB 2 (c.key.length : Int) ++ leB 4 (c.val.length : Int) ++ leB 4 (layC c.key c.val)).length + c.key.length - (leB 2 (c.key.length : Int) ++ leB 4 (c.val.length : Int) ++ leB 4 (layC c.key c.val)).length = c.key.length by omega, List.drop_left, List.take_left]
  have hval : recVal (encR c ++ y) = c.val := by
    unfold recVal
    rw [hN, hpre, hK, encR_eq]
    rw [show 12 + c.key.length = 10 + c.key.length + 1 + 1 by omega, List.drop_succ_cons, List.drop_succ_cons]
    rw [← List.append_assoc, ← List.append_assoc, ← List.append_assoc]
    exact List.drop_left' (by simp only [List.length_append]; omega)
  have h0 : (encR c ++ y).getD 0 0 = if c.lv then 252 else 248 := rfl
  refine ⟨⟨by rw [List.length_append, hlen]; unfold lenR; omega, ?_, by omega, by omega, by omega, by rw [hN, List.length_append]; omega, ?_⟩, hN, hkey, hval, ?_⟩
  · rw [h0]; cases c.lv <;> simp
  · rw [hN, hpre, hkey, hval]; rfl
  · unfold recLv; rw [h0]; cases c.lv <;> rfl
/-- the bytes of records -/
def encL (l : List Rc) : List UInt8 := l.flatMap encR
def Placed : Nat → List Rc → Prop
  | _, [] => True
  | a, c :: l => c.at_ = a ∧ OkR c ∧ Placed (a + lenR c) l
theorem encL_cons (c : Rc) (l : List Rc) : encL (c :: l) = encR c ++ encL l := rfl
theorem encL_append (l m : List Rc) : encL (l ++ m) = encL l ++ encL m := by simp [encL]
theorem placed_snoc (c : Rc) : ∀ (l : List Rc) (a : Nat), Placed a (l ++ [c]) ↔ Placed a l ∧ c.at_ = a + (encL l).length ∧ OkR c
  | [], a => by simp [Placed, encL]
  | d :: l, a => by
    simp only [List.cons_append, Placed, placed_snoc c l, encL_cons, List.length_append, encR_len, Nat.add_assoc, and_assoc]
theorem scan_enc (x y : List UInt8) (hy : ∀ b, y.head? = some b → b = 255 ∨ b = 254) : ∀ (l : List Rc) (a : Nat), a ≤ x.length → x.drop a = encL l ++ y → Placed a l → scanG x a = (l, a + (encL l).length, decide (y.head? ≠ some 254))
  | [], a, ha, hx, _ => by
    have h0 : x.drop a = y := hx
    have h1 : x[a]? = y.head? := by rw [← h0, List.head?_drop]
    have hlt : a < x.length ↔ y ≠ [] := by
      rw [← h0]; simp
    cases y with
    | nil =>
      rw [scanG_end (fun q => (hlt.1 q.1) rfl)]
      simp [encL]
    | cons b y =>
      have hal := hlt.2 (by simp)
      have h2 : x.getD a 0 = b := by rw [List.getD_eq_getElem?_getD, h1]; rfl
      rcases hy b rfl with rfl | rfl
      · rw [scanG_end (fun q => q.2 h2)]
        simp [encL]
      · rw [scanG_bad ⟨hal, by rw [h2]; decide⟩]
        · simp [encL]
        · intro hr
          have := hr.2.1
          rw [h0] at this
          simp at this
  | c :: l, a, ha, hx, hp => by
    obtain ⟨h1, h2, h3⟩ := hp
    rw [encL_cons, List.append_assoc] at hx
    obtain ⟨d1, d2, d3, d4, d5⟩ := dec_enc c h2 (encL l ++ y)
    rw [← hx] at d1 d2 d3 d4 d5
    have hl : lenR c + (encL l ++ y).length = x.length - a := by
      have := congrArg List.length hx
      rw [List.length_drop, List.length_append, encR_len] at this
      omega
    have hal : a < x.length := by
      have : 12 ≤ lenR c := by unfold lenR; omega
      omega
    have hne : x.getD a 0 ≠ 255 := by
      have h5 : x[a]? = (encR c ++ (encL l ++ y)).head? := by rw [← hx, List.head?_drop]
      rw [List.getD_eq_getElem?_getD, h5]
      show (if c.lv then (252 : UInt8) else 248) ≠ 255
      cases c.lv <;> decide
    have hx2 : x.drop (a + lenR c) = encL l ++ y := by
      rw [← List.drop_drop, hx, ← encR_len c]
      exact List.drop_left
    have ih := scan_enc x y hy l (a + lenR c) (by omega) hx2 h3
    rw [scanG_some ⟨hal, hne⟩ d1, d2, ih, d3, d4, d5, ← h1]
    simp only [encL_cons, List.length_append, encR_len, Nat.add_assoc]
end Go.Proofs.YtddocchgikaahaaDoor
