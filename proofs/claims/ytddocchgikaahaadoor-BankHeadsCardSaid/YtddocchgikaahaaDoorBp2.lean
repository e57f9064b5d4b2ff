/- What writes make of a flash's bytes: the plain law of programs and erasures. Conditions: the premises of each law. -/
import Derived.Test.YtddocchgikaahaaDoorBp1
namespace Go.Proofs.YtddocchgikaahaaDoor
set_option linter.unusedVariables false
set_option linter.unusedSimpArgs false
def andN : List UInt8 → Nat → List UInt8 → List UInt8
  | [], _, c => c
  | b :: m, k, c => andN m (k + 1) (c.set k (c.getD k 0 &&& b))
theorem andN_mid : ∀ (m q p r : List UInt8), q.length = m.length → andN m p.length (p ++ (q ++ r)) = p ++ (List.zipWith (· &&& ·) q m ++ r)
  | [], q, p, r, h => by
    obtain rfl := List.eq_nil_of_length_eq_zero (show q.length = 0 from h)
    rfl
  | b :: m, [], p, r, h => by simp at h
  | b :: m, d :: q, p, r, h => by
    have h' : q.length = m.length := by simpa using h
    have e1 : (p ++ (d :: q ++ r)).getD p.length 0 = d := by
      rw [List.getD_eq_getElem?_getD, List.getElem?_append_right (Nat.le_refl _)]; simp
    have e2 : (p ++ (d :: q ++ r)).set p.length (d &&& b) = (p ++ [d &&& b]) ++ (q ++ r) := by
      rw [List.set_append_right _ _ (Nat.le_refl _)]; simp
    rw [andN, e1, e2]
    have ih := andN_mid m q (p ++ [d &&& b]) r h'
    rw [List.length_append, List.length_singleton] at ih
    rw [ih]
    simp
theorem ff_and (b : UInt8) : 255 &&& b = b := by
  have : (255 : UInt8) = -1 := rfl
  rw [this]; exact UInt8.neg_one_and
theorem zip_ff : ∀ (m : List UInt8), List.zipWith (· &&& ·) (List.replicate m.length 255) m = m
  | [] => rfl
  | b :: m => by
    show ((255 : UInt8) &&& b) :: List.zipWith (· &&& ·) (List.replicate m.length 255) m = b :: m
    rw [zip_ff m, ff_and]
theorem progF_all : ∀ (m : List UInt8) (k : Nat) (c : List UInt8) (left w : Int), (left ≤ 0 ∨ (m.length : Int) < left) → progF m k c left w = (0, andN m k c, if 0 < left then left - m.length else left, false, w + m.length)
  | [], k, c, left, w, h => by
    simp only [progF, andN, List.length_nil]
    refine Prod.ext rfl (Prod.ext rfl (Prod.ext ?_ (Prod.ext rfl ?_)))
    · show left = if 0 < left then left - ((0 : Nat) : Int) else left
      split <;> simp
    · show w = w + ((0 : Nat) : Int)
      simp
  | b :: m, k, c, left, w, h => by
    simp only [List.length_cons] at h ⊢
    have h1 : ¬ (0 < left ∧ left - 1 = 0) := by omega
    rw [progF, if_neg h1, progF_all m (k + 1) _ _ (w + 1) (by split <;> omega), andN]
    refine Prod.ext rfl (Prod.ext rfl (Prod.ext ?_ (Prod.ext rfl ?_)))
    · by_cases h2 : 0 < left
      · rw [if_pos h2, if_pos (by show 0 < left - 1; omega), if_pos h2]; show left - 1 - (m.length : Int) = left - ((m.length + 1 : Nat) : Int); omega
      · simp only [if_neg h2]
    · show w + 1 + (m.length : Int) = w + ((m.length + 1 : Nat) : Int); omega
theorem progF_cut : ∀ (m : List UInt8) (k : Nat) (c : List UInt8) (left w : Int), 0 < left → left ≤ m.length → progF m k c left w = (6, andN (m.take (left.toNat - 1)) k c, 0, true, w + (left - 1))
  | [], k, c, left, w, h, h2 => by simp at h2; omega
  | b :: m, k, c, left, w, h, h2 => by
    simp only [List.length_cons] at h2
    by_cases h1 : left = 1
    · subst h1
      rw [progF, if_pos (by decide)]
      refine Prod.ext rfl (Prod.ext rfl (Prod.ext rfl (Prod.ext rfl ?_)))
      show w = w + (1 - 1); omega
    · rw [progF, if_neg (by omega), if_pos h, progF_cut m (k + 1) _ (left - 1) (w + 1) (by omega) (by omega)]
      rw [show left.toNat - 1 = ((left - 1).toNat - 1) + 1 by omega, List.take_succ_cons, andN]
      refine Prod.ext rfl (Prod.ext rfl (Prod.ext rfl (Prod.ext rfl ?_)))
      show w + 1 + (left - 1 - 1) = w + (left - 1); omega
/-- a program that goes through -/
theorem prog_all {s : FlS} {A : Int} {m p q r : List UInt8} (hd : s.dd = false) (hA : A = p.length) (hq : q.length = m.length) (hl : s.l = p ++ (q ++ r)) (h : s.ar ≤ 0 ∨ (m.length : Int) < s.ar) :
    s.prog A m = (0, ⟨p ++ (List.zipWith (· &&& ·) q m ++ r), s.k, if 0 < s.ar then s.ar - m.length else s.ar, s.pt, false, s.wr + m.length⟩) := by
  have hlen : s.l.length = p.length + (q.length + r.length) := by rw [hl]; simp
  unfold FlS.prog
  rw [hd, if_neg (by simp), if_pos (by omega), hA, Int.toNat_natCast, progF_all m p.length s.l s.ar s.wr h, hl, andN_mid m q p r hq]
/-- a program in which the power goes -/
theorem prog_cut {s : FlS} {A : Int} {m p q r : List UInt8} (hd : s.dd = false) (hA : A = p.length) (hq : q.length = m.length) (hl : s.l = p ++ (q ++ r)) (h : 0 < s.ar) (h2 : s.ar ≤ m.length) :
    s.prog A m = (6, ⟨p ++ (List.zipWith (· &&& ·) (q.take (s.ar.toNat - 1)) (m.take (s.ar.toNat - 1)) ++ (q.drop (s.ar.toNat - 1) ++ r)), s.k, 0, s.pt, true, s.wr + (s.ar - 1)⟩) := by
  have hlen : s.l.length = p.length + (q.length + r.length) := by rw [hl]; simp
  unfold FlS.prog
  rw [hd, if_neg (by simp), if_pos (by omega), hA, Int.toNat_natCast, progF_cut m p.length s.l s.ar s.wr h h2, hl]
  have e : q ++ r = q.take (s.ar.toNat - 1) ++ (q.drop (s.ar.toNat - 1) ++ r) := by rw [← List.append_assoc, List.take_append_drop]
  rw [e, andN_mid _ (q.take (s.ar.toNat - 1)) p _ (by simp [hq])]
theorem fillN_mid : ∀ (n : Nat) (p q r : List UInt8), q.length = n → fillN (p ++ (q ++ r)) p.length n = p ++ (List.replicate n 255 ++ r)
  | 0, p, q, r, h => by
    obtain rfl := List.eq_nil_of_length_eq_zero h
    rfl
  | n + 1, p, q, r, h => by
    have hne : q ≠ [] := by intro e; simp [e] at h
    have hq : q = q.dropLast ++ [q.getLast hne] := (List.dropLast_concat_getLast hne).symm
    have hd : q.dropLast.length = n := by simp; omega
    have ih := fillN_mid n p q.dropLast (q.getLast hne :: r) hd
    have e : p ++ (q ++ r) = p ++ (q.dropLast ++ (q.getLast hne :: r)) := by
      conv => lhs; rw [hq]
      simp
    rw [fillN, e, ih, ← List.append_assoc, List.set_append_right _ _ (by simp), List.length_append, List.length_replicate, Nat.sub_self]
    simp [List.replicate_succ']
end Go.Proofs.YtddocchgikaahaaDoor
