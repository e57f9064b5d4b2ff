/- What records make of a bank's bytes: the plain law of scan. What writes make of a flash's bytes: the plain law of programs and erasures. What the bank's calls make of its records: the plain law. What Kill, Arm, On and the erasures make of a bank's records: the plain law. What Format, Ready and Head make of a bank; the bank that a law begins with: the plain law. Conditions: the premises of each law. -/
import Derived.Test.YtmjpbmcbcppkfaaGreatDoorJGl
namespace Go.Proofs.YtmjpbmcbcppkfaaGreatDoor
set_option linter.unusedVariables false
set_option linter.unusedSimpArgs false
theorem numB_leB (m : Nat) : ∀ n : Nat, numB (leB n (m : Int)) = m % 256 ^ n
 | 0 => by simp [leB, numB, Nat.mod_one]
 | n + 1 => by
  rw [leB_succ, numB_snoc, numB_leB m n, leB_len, Nat.mod_pow_succ]
  have e : ((8 * (n : Int)).toNat) = 8 * n := by omega
  have h : ((m : Int) / 2 ^ (8 * (n : Int)).toNat % 256).toNat = m / 256 ^ n % 256 := by
   rw [e, show (2 : Int) ^ (8 * n) = ((256 ^ n : Nat) : Int) by rw [show (256 : Nat) = 2 ^ 8 by rfl, ← Nat.pow_mul]; simp]
   omega
  rw [h]
  have h2 : (UInt8.ofNat (m / 256 ^ n % 256)).toNat = m / 256 ^ n % 256 := by
   rw [UInt8.toNat_ofNat']; omega
  rw [h2]; omega
def encR (c : Rc) : List UInt8 := (if c.lv then 252 else 248) :: layB c.key c.val
def lenR (c : Rc) : Nat := 12 + c.key.length + c.val.length
structure OkR (c : Rc) : Prop where
 k : 1 ≤ c.key.length ∧ c.key.length ≤ 255
 v : c.val.length ≤ 65536
theorem encR_len (c : Rc) : (encR c).length = lenR c := by
 simp only [encR, List.length_cons, layB_len, lenR]; omega
theorem encR_eq (c : Rc) : encR c = (if c.lv then 252 else 248) :: 165 :: (leB 2 c.key.length ++ (leB 4 c.val.length ++ (leB 4 (layC c.key c.val) ++ (c.key ++ c.val)))) := by
 simp [encR, layB, layH, layX]
theorem dec_enc (c : Rc) (h : OkR c) (y : List UInt8) : recIs (encR c ++ y) ∧ recN (encR c ++ y) = lenR c ∧ recKey (encR c ++ y) = c.key ∧ recVal (encR c ++ y) = c.val ∧ recLv (encR c ++ y) = c.lv := by
 have hk := h.k
 have hv := h.v
 have l2 := leB_len 2 c.key.length
 have l4 := leB_len 4 c.val.length
 have l4' := leB_len 4 (layC c.key c.val)
 have hK : recK (encR c ++ y) = c.key.length := by
  unfold recK
  rw [encR_eq]
  simp only [List.cons_append, List.drop_succ_cons, List.drop_zero, List.append_assoc]
  rw [List.take_append_of_le_length (by omega), List.take_of_length_le (by omega), numB_leB]
  exact Nat.mod_eq_of_lt (by omega)
 have hV : recV (encR c ++ y) = c.val.length := by
  unfold recV
  rw [encR_eq]
  simp only [List.cons_append, List.drop_succ_cons, List.append_assoc]
  rw [List.drop_append_of_le_length (by omega), show (leB 2 (c.key.length : Int)).drop 2 = [] from List.drop_of_length_le (by omega), List.nil_append, List.take_append_of_le_length (by omega), List.take_of_length_le (by omega), numB_leB]
  exact Nat.mod_eq_of_lt (by omega)
 have hN : recN (encR c ++ y) = lenR c := by unfold recN lenR; rw [hK, hV]
 have hlen := encR_len c
 have hpre : (encR c ++ y).take (lenR c) = encR c := by rw [List.take_append_of_le_length (by omega), List.take_of_length_le (by omega)]
 have hkey : recKey (encR c ++ y) = c.key := by
  unfold recKey
  rw [hK, encR_eq]
  simp only [List.cons_append, List.append_assoc]
  rw [show 12 + c.key.length = 10 + c.key.length + 1 + 1 by omega, List.take_succ_cons, List.take_succ_cons, show 12 = 10 + 1 + 1 by rfl, List.drop_succ_cons, List.drop_succ_cons]
  rw [← List.append_assoc (leB 2 _), ← List.append_assoc (leB 2 _ ++ _)]
  have hd : (leB 2 (c.key.length : Int) ++ leB 4 (c.val.length : Int) ++ leB 4 (layC c.key c.val)).length = 10 := by simp only [List.length_append]; omega
  rw [← hd, List.take_append, List.take_of_length_le (by omega), show (leB 2 (c.key.length : Int) ++ leB 4 (c.val.length : Int) ++ leB 4 (layC c.key c.val)).length + c.key.length - (leB 2 (c.key.length : Int) ++ leB 4 (c.val.length : Int) ++ leB 4 (layC c.key c.val)).length = c.key.length by omega, List.drop_left, List.take_left]
 have hval : recVal (encR c ++ y) = c.val := by
  unfold recVal
  rw [hN, hpre, hK, encR_eq]
  rw [show 12 + c.key.length = 10 + c.key.length + 1 + 1 by omega, List.drop_succ_cons, List.drop_succ_cons]
  rw [← List.append_assoc, ← List.append_assoc, ← List.append_assoc]
  exact List.drop_left' (by simp only [List.length_append]; omega)
 have h0 : (encR c ++ y).getD 0 0 = if c.lv then 252 else 248 := rfl
 refine ⟨⟨by rw [List.length_append, hlen]; unfold lenR; omega, ?_, by omega, by omega, by omega, by rw [hN, List.length_append]; omega, ?_⟩, hN, hkey, hval, ?_⟩
 ·rw [h0]; cases c.lv <;> simp
 ·rw [hN, hpre, hkey, hval]; rfl
 ·unfold recLv; rw [h0]; cases c.lv <;> rfl
def encL (l : List Rc) : List UInt8 := l.flatMap encR
def Placed : Nat → List Rc → Prop
 | _, [] => True
 | a, c :: l => c.at_ = a ∧ OkR c ∧ Placed (a + lenR c) l
theorem encL_cons (c : Rc) (l : List Rc) : encL (c :: l) = encR c ++ encL l := rfl
theorem encL_append (l m : List Rc) : encL (l ++ m) = encL l ++ encL m := by simp [encL]
theorem placed_snoc (c : Rc) : ∀ (l : List Rc) (a : Nat), Placed a (l ++ [c]) ↔ Placed a l ∧ c.at_ = a + (encL l).length ∧ OkR c
 | [], a => by simp [Placed, encL]
 | d :: l, a => by
  simp only [List.cons_append, Placed, placed_snoc c l, encL_cons, List.length_append, encR_len, Nat.add_assoc, and_assoc]
theorem scan_enc (x y : List UInt8) (hy : ∀ b, y.head? = some b → b = 255 ∨ b = 254) : ∀ (l : List Rc) (a : Nat), a ≤ x.length → x.drop a = encL l ++ y → Placed a l → scanG x a = (l, a + (encL l).length, decide (y.head? ≠ some 254))
 | [], a, ha, hx, _ => by
  have h0 : x.drop a = y := hx
  have h1 : x[a]? = y.head? := by rw [← h0, List.head?_drop]
  have hlt : a < x.length ↔ y ≠ [] := by
   rw [← h0]; simp
  cases y with
  | nil =>
   rw [scanG_end (fun q => (hlt.1 q.1) rfl)]
   simp [encL]
  | cons b y =>
   have hal := hlt.2 (by simp)
   have h2 : x.getD a 0 = b := by rw [List.getD_eq_getElem?_getD, h1]; rfl
   rcases hy b rfl with rfl | rfl
   ·rw [scanG_end (fun q => q.2 h2)]
    simp [encL]
   ·rw [scanG_bad ⟨hal, by rw [h2]; decide⟩]
    ·simp [encL]
    ·intro hr
     have := hr.2.1
     rw [h0] at this
     simp at this
 | c :: l, a, ha, hx, hp => by
  obtain ⟨h1, h2, h3⟩ := hp
  rw [encL_cons, List.append_assoc] at hx
  obtain ⟨d1, d2, d3, d4, d5⟩ := dec_enc c h2 (encL l ++ y)
  rw [← hx] at d1 d2 d3 d4 d5
  have hl : lenR c + (encL l ++ y).length = x.length - a := by
   have := congrArg List.length hx
   rw [List.length_drop, List.length_append, encR_len] at this
   omega
  have hal : a < x.length := by
   have : 12 ≤ lenR c := by unfold lenR; omega
   omega
  have hne : x.getD a 0 ≠ 255 := by
   have h5 : x[a]? = (encR c ++ (encL l ++ y)).head? := by rw [← hx, List.head?_drop]
   rw [List.getD_eq_getElem?_getD, h5]
   show (if c.lv then (252 : UInt8) else 248) ≠ 255
   cases c.lv <;> decide
  have hx2 : x.drop (a + lenR c) = encL l ++ y := by
   rw [← List.drop_drop, hx, ← encR_len c]
   exact List.drop_left
  have ih := scan_enc x y hy l (a + lenR c) (by omega) hx2 h3
  rw [scanG_some ⟨hal, hne⟩ d1, d2, ih, d3, d4, d5, ← h1]
  simp only [encL_cons, List.length_append, encR_len, Nat.add_assoc]
end Go.Proofs.YtmjpbmcbcppkfaaGreatDoor
namespace Go.Proofs.YtmjpbmcbcppkfaaGreatDoor
set_option linter.unusedVariables false
set_option linter.unusedSimpArgs false
def andN : List UInt8 → Nat → List UInt8 → List UInt8
 | [], _, c => c
 | b :: m, k, c => andN m (k + 1) (c.set k (c.getD k 0 &&& b))
theorem andN_mid : ∀ (m q p r : List UInt8), q.length = m.length → andN m p.length (p ++ (q ++ r)) = p ++ (List.zipWith (· &&& ·) q m ++ r)
 | [], q, p, r, h => by
  obtain rfl := List.eq_nil_of_length_eq_zero (show q.length = 0 from h)
  rfl
 | b :: m, [], p, r, h => by simp at h
 | b :: m, d :: q, p, r, h => by
  have h' : q.length = m.length := by simpa using h
  have e1 : (p ++ (d :: q ++ r)).getD p.length 0 = d := by
   rw [List.getD_eq_getElem?_getD, List.getElem?_append_right (Nat.le_refl _)]; simp
  have e2 : (p ++ (d :: q ++ r)).set p.length (d &&& b) = (p ++ [d &&& b]) ++ (q ++ r) := by
   rw [List.set_append_right _ _ (Nat.le_refl _)]; simp
  rw [andN, e1, e2]
  have ih := andN_mid m q (p ++ [d &&& b]) r h'
  rw [List.length_append, List.length_singleton] at ih
  rw [ih]
  simp
theorem ff_and (b : UInt8) : 255 &&& b = b := by
 have : (255 : UInt8) = -1 := rfl
 rw [this]; exact UInt8.neg_one_and
theorem zip_ff : ∀ (m : List UInt8), List.zipWith (· &&& ·) (List.replicate m.length 255) m = m
 | [] => rfl
 | b :: m => by
  show ((255 : UInt8) &&& b) :: List.zipWith (· &&& ·) (List.replicate m.length 255) m = b :: m
  rw [zip_ff m, ff_and]
theorem progF_all : ∀ (m : List UInt8) (k : Nat) (c : List UInt8) (left w : Int), (left ≤ 0 ∨ (m.length : Int) < left) → progF m k c left w = (0, andN m k c, if 0 < left then left - m.length else left, false, w + m.length)
 | [], k, c, left, w, h => by
  simp only [progF, andN, List.length_nil]
  refine Prod.ext rfl (Prod.ext rfl (Prod.ext ?_ (Prod.ext rfl ?_)))
  ·show left = if 0 < left then left - ((0 : Nat) : Int) else left
   split <;> simp
  ·show w = w + ((0 : Nat) : Int)
   simp
 | b :: m, k, c, left, w, h => by
  simp only [List.length_cons] at h ⊢
  have h1 : ¬ (0 < left ∧ left - 1 = 0) := by omega
  rw [progF, if_neg h1, progF_all m (k + 1) _ _ (w + 1) (by split <;> omega), andN]
  refine Prod.ext rfl (Prod.ext rfl (Prod.ext ?_ (Prod.ext rfl ?_)))
  ·by_cases h2 : 0 < left
   ·rw [if_pos h2, if_pos (by show 0 < left - 1; omega), if_pos h2]; show left - 1 - (m.length : Int) = left - ((m.length + 1 : Nat) : Int); omega
   ·simp only [if_neg h2]
  ·show w + 1 + (m.length : Int) = w + ((m.length + 1 : Nat) : Int); omega
theorem prog_all {s : FlS} {A : Int} {m p q r : List UInt8} (hd : s.dd = false) (hA : A = p.length) (hq : q.length = m.length) (hl : s.l = p ++ (q ++ r)) (h : s.ar ≤ 0 ∨ (m.length : Int) < s.ar) :
    s.prog A m = (0, ⟨p ++ (List.zipWith (· &&& ·) q m ++ r), s.k, if 0 < s.ar then s.ar - m.length else s.ar, s.pt, false, s.wr + m.length⟩) := by
 have hlen : s.l.length = p.length + (q.length + r.length) := by rw [hl]; simp
 unfold FlS.prog
 rw [hd, if_neg (by simp), if_pos (by omega), hA, Int.toNat_natCast, progF_all m p.length s.l s.ar s.wr h, hl, andN_mid m q p r hq]
theorem fillN_mid : ∀ (n : Nat) (p q r : List UInt8), q.length = n → fillN (p ++ (q ++ r)) p.length n = p ++ (List.replicate n 255 ++ r)
 | 0, p, q, r, h => by
  obtain rfl := List.eq_nil_of_length_eq_zero h
  rfl
 | n + 1, p, q, r, h => by
  have hne : q ≠ [] := by intro e; simp [e] at h
  have hq : q = q.dropLast ++ [q.getLast hne] := (List.dropLast_concat_getLast hne).symm
  have hd : q.dropLast.length = n := by simp; omega
  have ih := fillN_mid n p q.dropLast (q.getLast hne :: r) hd
  have e : p ++ (q ++ r) = p ++ (q.dropLast ++ (q.getLast hne :: r)) := by
   conv => lhs; rw [hq]
   simp
  rw [fillN, e, ih, ← List.append_assoc, List.set_append_right _ _ (by simp), List.length_append, List.length_replicate, Nat.sub_self]
  simp [List.replicate_succ']
end Go.Proofs.YtmjpbmcbcppkfaaGreatDoor
namespace Go.Proofs.YtmjpbmcbcppkfaaGreatDoor
set_option linter.unusedVariables false
set_option linter.unusedSimpArgs false
theorem FlS.ext {s t : FlS} (h1 : s.l = t.l) (h2 : s.k = t.k) (h3 : s.ar = t.ar) (h4 : s.pt = t.pt) (h5 : s.dd = t.dd) (h6 : s.wr = t.wr) : s = t := by
 cases s; cases t; simp_all
theorem rep_split {m n : Nat} (h : n ≤ m) (b : UInt8) (r : List UInt8) : List.replicate m b ++ r = List.replicate n b ++ (List.replicate (m - n) b ++ r) := by
 rw [← List.append_assoc, List.replicate_append_replicate, Nat.add_sub_cancel' h]
theorem add3_all {s : FlS} {A : Int} {d : Rc} {p r : List UInt8} {m : Nat} (hd : s.dd = false) (hA : A = p.length) (hl : s.l = p ++ (List.replicate m 255 ++ r)) (hm : lenR d ≤ m) (hc : d.lv = true) (h : s.ar ≤ 0 ∨ (lenR d + 1 : Int) < s.ar) :
    s.add3 A d.key d.val = (0, ⟨p ++ (encR d ++ (List.replicate (m - lenR d) 255 ++ r)), s.k, if 0 < s.ar then s.ar - (lenR d + 1) else s.ar, s.pt, false, s.wr + (lenR d + 1)⟩) := by
 have hL : (layB d.key d.val).length + 1 = lenR d := by rw [layB_len]; unfold lenR; omega
 have hL' : ((layB d.key d.val).length : Int) + 1 = lenR d := by omega
 have e1 : s.prog A [254] = (0, ⟨p ++ ([254] ++ (List.replicate (m - 1) 255 ++ r)), s.k, if 0 < s.ar then s.ar - 1 else s.ar, s.pt, false, s.wr + 1⟩) :=
  prog_all (m := [254]) (p := p) (q := [255]) (r := List.replicate (m - 1) 255 ++ r) hd hA rfl (by rw [hl, rep_split (by omega : 1 ≤ m)]; rfl) (by simp only [List.length_singleton]; omega)
 have e2 : FlS.prog ⟨p ++ ([254] ++ (List.replicate (m - 1) 255 ++ r)), s.k, if 0 < s.ar then s.ar - 1 else s.ar, s.pt, false, s.wr + 1⟩ (A + 1) (layB d.key d.val) = (0, ⟨p ++ ([254] ++ (layB d.key d.val ++ (List.replicate (m - lenR d) 255 ++ r))), s.k, if 0 < s.ar then s.ar - lenR d else s.ar, s.pt, false, s.wr + lenR d⟩) := by
  rw [prog_all (m := layB d.key d.val) (p := p ++ [254]) (q := List.replicate (layB d.key d.val).length 255) (r := List.replicate (m - lenR d) 255 ++ r) rfl (by rw [hA]; simp) (by simp) (by
   show p ++ ([254] ++ (List.replicate (m - 1) 255 ++ r)) = _
   rw [rep_split (by omega : (layB d.key d.val).length ≤ m - 1), show m - 1 - (layB d.key d.val).length = m - lenR d by omega]
   simp) (by show (if 0 < s.ar then s.ar - 1 else s.ar) ≤ 0 ∨ ((layB d.key d.val).length : Int) < (if 0 < s.ar then s.ar - 1 else s.ar); split <;> omega), zip_ff, List.append_assoc]
  refine Prod.ext rfl (FlS.ext rfl rfl ?_ rfl rfl ?_)
  ·show (if 0 < (if 0 < s.ar then s.ar - 1 else s.ar) then (if 0 < s.ar then s.ar - 1 else s.ar) - ((layB d.key d.val).length : Int) else (if 0 < s.ar then s.ar - 1 else s.ar)) = _
   by_cases h0 : 0 < s.ar
   ·simp only [if_pos h0]; rw [if_pos (by omega)]; omega
   ·simp only [if_neg h0]
  ·show s.wr + 1 + ((layB d.key d.val).length : Int) = s.wr + lenR d; omega
 have e3 : FlS.prog ⟨p ++ ([254] ++ (layB d.key d.val ++ (List.replicate (m - lenR d) 255 ++ r))), s.k, if 0 < s.ar then s.ar - lenR d else s.ar, s.pt, false, s.wr + lenR d⟩ A [252] = (0, ⟨p ++ (encR d ++ (List.replicate (m - lenR d) 255 ++ r)), s.k, if 0 < s.ar then s.ar - (lenR d + 1) else s.ar, s.pt, false, s.wr + (lenR d + 1)⟩) := by
  rw [prog_all (m := [252]) (p := p) (q := [254]) (r := layB d.key d.val ++ (List.replicate (m - lenR d) 255 ++ r)) rfl hA rfl rfl (by show (if 0 < s.ar then s.ar - lenR d else s.ar) ≤ 0 ∨ (([252] : List UInt8).length : Int) < (if 0 < s.ar then s.ar - lenR d else s.ar); simp only [List.length_singleton]; split <;> omega)]
  refine Prod.ext rfl (FlS.ext ?_ rfl ?_ rfl rfl ?_)
  ·show p ++ ([252] ++ (layB d.key d.val ++ (List.replicate (m - lenR d) 255 ++ r))) = _
   simp [encR, hc]
  ·show (if 0 < (if 0 < s.ar then s.ar - (lenR d : Int) else s.ar) then (if 0 < s.ar then s.ar - (lenR d : Int) else s.ar) - ((([252] : List UInt8).length : Nat) : Int) else (if 0 < s.ar then s.ar - (lenR d : Int) else s.ar)) = _
   simp only [List.length_singleton]
   by_cases h0 : 0 < s.ar
   ·simp only [if_pos h0]; rw [if_pos (by omega)]; omega
   ·simp only [if_neg h0]
  ·show s.wr + (lenR d : Int) + (([252] : List UInt8).length : Int) = s.wr + (lenR d + 1); simp only [List.length_singleton]; omega
 unfold FlS.add3
 rw [e1]
 rw [if_neg (by simp)]
 rw [e2]
 rw [if_neg (by simp)]
 exact e3
structure BI (s : FlS) (a c : Nat) (P H : List UInt8) (l : List Rc) (m : Nat) (Q : List UInt8) : Prop where
 img : s.l = P ++ (H ++ (encL l ++ (List.replicate m 255 ++ Q)))
 P : P.length = a * s.k
 H : H.length = 16
 n : 16 + (encL l).length + m = c * s.k
 pl : Placed 16 l
 dd : s.dd = false
theorem bank_of {s : FlS} {a c : Nat} {P X Q : List UInt8} (hl : s.l = P ++ (X ++ Q)) (hP : P.length = a * s.k) (hX : X.length = c * s.k) : s.bank a c = X := by
 unfold FlS.bank
 rw [hl, ← hP, List.drop_left, ← hX, List.take_left]
theorem scan_of {s : FlS} {a c : Nat} {P H y Q : List UInt8} {l : List Rc} (hl : s.l = P ++ (H ++ (encL l ++ (y ++ Q)))) (hP : P.length = a * s.k) (hH : H.length = 16) (hn : 16 + (encL l).length + y.length = c * s.k) (hp : Placed 16 l)
    (hy : ∀ b, y.head? = some b → b = 255 ∨ b = 254) : s.scan a c = (l, 16 + (encL l).length, decide (y.head? ≠ some 254)) := by
 have hb : s.bank a c = H ++ (encL l ++ y) := bank_of (P := P) (Q := Q) (by rw [hl]; simp) hP (by simp only [List.length_append]; omega)
 unfold FlS.scan
 rw [hb]
 exact scan_enc (H ++ (encL l ++ y)) y hy l 16 (by simp only [List.length_append]; omega) (by rw [← hH, List.drop_left]) hp
theorem ff_head {m : Nat} {b : UInt8} (h : (List.replicate m (255 : UInt8)).head? = some b) : b = 255 := by
 cases m with
 | zero => simp at h
 | succ m => rw [List.replicate_succ] at h; exact (Option.some.inj h).symm
theorem ff_nhead (m : Nat) : decide ((List.replicate m (255 : UInt8)).head? ≠ some 254) = true := by
 rw [decide_eq_true_iff]
 intro h
 exact absurd (ff_head h) (by decide)
section
variable {s : FlS} {a c : Nat} {P H : List UInt8} {l : List Rc} {m : Nat} {Q : List UInt8}
theorem BI.scan (h : BI s a c P H l m Q) : s.scan a c = (l, 16 + (encL l).length, true) := by
 rw [scan_of h.img h.P h.H (by rw [List.length_replicate]; exact h.n) h.pl (fun b hb => .inl (ff_head hb)), ff_nhead]
theorem add_eq {s : FlS} {a c : Nat} {d : Rc} (ho : OkR d) (hd : s.dd = false) {l : List Rc} {e : Nat} (hs : s.scan a c = (l, e, true)) (he : lenR d + e ≤ c * s.k) : s.add a c d.key d.val = s.add3 ((a : Int) * s.k + (e : Int)) d.key d.val := by
 have hk := ho.k
 have hv := ho.v
 have hle : ((lenR d + e : Nat) : Int) ≤ ((c * s.k : Nat) : Int) := by exact_mod_cast he
 unfold lenR at hle
 rw [Int.natCast_mul] at hle
 unfold FlS.add
 rw [if_neg (by omega), hd, if_neg (by simp), hs, if_neg (by simp), if_neg (by simp only; omega)]
theorem BI.add_all (h : BI s a c P H l m Q) {d : Rc} (ho : OkR d) (hl : d.lv = true) (hat : d.at_ = 16 + (encL l).length) (hm : lenR d ≤ m) (har : s.ar ≤ 0 ∨ (lenR d + 1 : Int) < s.ar) :
    ∃ s', s.add a c d.key d.val = (0, s') ∧ BI s' a c P H (l ++ [d]) (m - lenR d) Q ∧ s'.k = s.k ∧ s'.ar = if 0 < s.ar then s.ar - (lenR d + 1) else s.ar := by
 have hn := h.n
 have hH := h.H
 have hP := h.P
 have e := add3_all (s := s) (A := (a : Int) * s.k + ((16 + (encL l).length : Nat) : Int)) (d := d) (p := P ++ (H ++ encL l)) (r := Q) (m := m) h.dd (by
  simp only [List.length_append, hH, hP, Int.natCast_add, Int.natCast_mul]) (by rw [h.img]; simp) hm hl har
 rw [add_eq ho h.dd h.scan (by omega), e]
 refine ⟨_, rfl, ⟨?_, hP, hH, ?_, (placed_snoc d l 16).2 ⟨h.pl, hat, ho⟩, rfl⟩, rfl, rfl⟩
 ·simp [encL_append, encL]
 ·rw [encL_append, List.length_append]
  simp only [encL, List.flatMap_cons, List.flatMap_nil, List.append_nil, encR_len]
  show 16 + ((List.flatMap encR l).length + lenR d) + (m - lenR d) = c * s.k
  have : (List.flatMap encR l).length = (encL l).length := rfl
  omega
end
end Go.Proofs.YtmjpbmcbcppkfaaGreatDoor
namespace Go.Proofs.YtmjpbmcbcppkfaaGreatDoor
set_option linter.unusedVariables false
set_option linter.unusedSimpArgs false
theorem placed_append : ∀ (l l2 : List Rc) (a : Nat), Placed a (l ++ l2) ↔ Placed a l ∧ Placed (a + (encL l).length) l2
 | [], l2, a => by simp [Placed, encL]
 | d :: l, l2, a => by
  simp only [List.cons_append, Placed, placed_append l l2, encL_cons, List.length_append, encR_len, Nat.add_assoc, and_assoc]
def Rc.die (d : Rc) : Rc := ⟨d.key, d.val, false, d.at_⟩
theorem placed_mid {l1 l2 : List Rc} {d : Rc} {a : Nat} (h : Placed a (l1 ++ d :: l2)) : d.at_ = a + (encL l1).length ∧ OkR d ∧ Placed a (l1 ++ d.die :: l2) := by
 rw [placed_append] at h
 obtain ⟨h1, h2, h3, h4⟩ := h
 exact ⟨h2, h3, (placed_append _ _ _).2 ⟨h1, h2, ⟨h3.k, h3.v⟩, h4⟩⟩
section
variable {s : FlS} {a c : Nat} {P H : List UInt8} {l l1 l2 : List Rc} {d : Rc} {m : Nat} {Q : List UInt8}
theorem BI.kill_eq (h : BI s a c P H (l1 ++ d :: l2) m Q) : s.kill a c (l1.length : Int) = s.prog ((P ++ (H ++ encL l1)).length : Int) [248] := by
 obtain ⟨h1, h2, h3⟩ := placed_mid h.pl
 unfold FlS.kill
 rw [h.dd, if_neg (by simp), h.scan, if_neg (by simp only [List.length_append, List.length_cons]; omega)]
 have e : ((l1 ++ d :: l2).map fun r => (r.at_ : Int)).getD (l1.length : Int).toNat 0 = d.at_ := by
  rw [Int.toNat_natCast, List.getD_eq_getElem?_getD, List.map_append, List.getElem?_append_right (by simp)]
  simp
 have e2 : ((a : Int) * s.k + (d.at_ : Int)) = ((P ++ (H ++ encL l1)).length : Int) := by
  rw [h1]
  simp only [List.length_append, h.P, h.H, Int.natCast_add, Int.natCast_mul]
 simp only [e, e2]
theorem BI.kill_img (h : BI s a c P H (l1 ++ d :: l2) m Q) : s.l = (P ++ (H ++ encL l1)) ++ ([if d.lv then 252 else 248] ++ (layB d.key d.val ++ (encL l2 ++ (List.replicate m 255 ++ Q)))) := by
 rw [h.img, encL_append, encL_cons]
 simp [encR]
theorem die_img (l1 l2 : List Rc) (d : Rc) (y : List UInt8) : (P ++ (H ++ encL l1)) ++ ([248] ++ (layB d.key d.val ++ (encL l2 ++ y))) = P ++ (H ++ (encL (l1 ++ d.die :: l2) ++ y)) := by
 rw [encL_append, encL_cons]
 simp [encR, Rc.die]
theorem die_len (l1 l2 : List Rc) (d : Rc) : (encL (l1 ++ d.die :: l2)).length = (encL (l1 ++ d :: l2)).length := by
 simp only [encL_append, encL_cons, List.length_append, encR_len]
 rfl
theorem BI.kill_all (h : BI s a c P H (l1 ++ d :: l2) m Q) (har : s.ar ≤ 0 ∨ 1 < s.ar) :
    ∃ s', s.kill a c (l1.length : Int) = (0, s') ∧ BI s' a c P H (l1 ++ d.die :: l2) m Q ∧ s'.k = s.k ∧ s'.ar = if 0 < s.ar then s.ar - 1 else s.ar := by
 rw [h.kill_eq, prog_all (m := [248]) (p := P ++ (H ++ encL l1)) (q := [if d.lv then 252 else 248]) h.dd rfl rfl h.kill_img (by simp only [List.length_singleton]; omega)]
 have hz : List.zipWith (· &&& ·) [if d.lv then (252 : UInt8) else 248] [248] = [248] := by cases d.lv <;> rfl
 rw [hz, die_img]
 refine ⟨_, rfl, ⟨rfl, h.P, h.H, ?_, (placed_mid h.pl).2.2, rfl⟩, rfl, rfl⟩
 rw [die_len]; exact h.n
theorem BI.on (h : BI s a c P H l m Q) : s.on = (12, s) := by
 unfold FlS.on
 rw [h.dd, if_neg (by simp)]
theorem erase_in {x : Nat} {X : List UInt8} (hd : s.dd = false) (hk : 0 < s.k) (hl : s.l = P ++ (X ++ Q)) (hP : P.length = x * s.k) (hX : X.length = s.k) :
    (s.ar ≤ 0 ∨ 1 < s.ar → s.erase (x : Int) = (0, ⟨P ++ (List.replicate s.k 255 ++ Q), s.k, if 0 < s.ar then s.ar - 1 else s.ar, s.pt, false, s.wr + 1⟩)) ∧
    (s.ar = 1 → s.erase (x : Int) = (6, ⟨P ++ (List.replicate (min s.pt (s.k : Int)).toNat 255 ++ (X.drop (min s.pt (s.k : Int)).toNat ++ Q)), s.k, 0, s.pt, true, s.wr⟩)) := by
 have hlen : s.l.length = x * s.k + (s.k + Q.length) := by rw [hl, List.length_append, List.length_append, hP, hX]
 have hin : 0 ≤ (x : Int) ∧ (x : Int) < (s.l.length : Int) / (s.k : Int) := by
  refine ⟨by omega, ?_⟩
  rw [← Int.natCast_ediv]
  have : x + 1 ≤ s.l.length / s.k := (Nat.le_div_iff_mul_le hk).2 (by rw [hlen, Nat.add_mul]; omega)
  omega
 constructor
 ·intro ha
  have hg : s.goes = false := by
   unfold FlS.goes
   split
   ·rw [decide_eq_false_iff_not]; omega
   ·rfl
  unfold FlS.erase
  rw [hd, if_neg (by simp), if_pos hin, hg]
  simp only [Bool.false_eq_true, if_false, Int.toNat_natCast]
  rw [hl, ← hP, fillN_mid s.k P X Q hX]
 ·intro ha
  have hg : s.goes = true := by
   unfold FlS.goes
   rw [ha]; rfl
  have hle : (min s.pt (s.k : Int)).toNat ≤ s.k := by omega
  have e : X ++ Q = X.take (min s.pt (s.k : Int)).toNat ++ (X.drop (min s.pt (s.k : Int)).toNat ++ Q) := by rw [← List.append_assoc, List.take_append_drop]
  unfold FlS.erase
  rw [hd, if_neg (by simp), if_pos hin, hg]
  simp only [if_true, Int.toNat_natCast]
  rw [hl, ← hP, e, fillN_mid _ P (X.take (min s.pt (s.k : Int)).toNat) _ (by rw [List.length_take, hX]; omega), ha]
  rfl
theorem wipe_all : ∀ (c : Nat) (X Q : List UInt8), s.dd = false → 0 < s.k → s.l = P ++ (X ++ Q) → P.length = a * s.k → X.length = c * s.k → (s.ar ≤ 0 ∨ (c : Int) < s.ar) →
    s.wipe a c = (0, ⟨P ++ (List.replicate (c * s.k) 255 ++ Q), s.k, if 0 < s.ar then s.ar - c else s.ar, s.pt, false, s.wr + c⟩)
 | 0, X, Q, hd, hk, hl, hP, hX, h => by
  obtain rfl := List.eq_nil_of_length_eq_zero (by rw [hX]; simp : X.length = 0)
  refine Prod.ext rfl (FlS.ext ?_ rfl ?_ rfl hd ?_)
  ·show s.l = P ++ (List.replicate (0 * s.k) 255 ++ Q)
   rw [hl, Nat.zero_mul]; rfl
  ·show s.ar = if 0 < s.ar then s.ar - ((0 : Nat) : Int) else s.ar
   split <;> simp
  ·show s.wr = s.wr + ((0 : Nat) : Int); simp
 | c + 1, X, Q, hd, hk, hl, hP, hX, h => by
  have hX2 : X.length = c * s.k + s.k := by rw [hX, Nat.add_mul]; omega
  have e : X ++ Q = X.take (c * s.k) ++ (X.drop (c * s.k) ++ Q) := by rw [← List.append_assoc, List.take_append_drop]
  have ih := wipe_all c (X.take (c * s.k)) (X.drop (c * s.k) ++ Q) hd hk (by rw [hl, e]) hP (by rw [List.length_take]; omega) (by omega)
  unfold FlS.wipe
  rw [ih]
  simp only [if_true]
  have he := (erase_in (s := ⟨P ++ (List.replicate (c * s.k) 255 ++ (X.drop (c * s.k) ++ Q)), s.k, if 0 < s.ar then s.ar - c else s.ar, s.pt, false, s.wr + c⟩) (x := a + c) (P := P ++ List.replicate (c * s.k) 255) (X := X.drop (c * s.k)) (Q := Q) rfl hk (by simp) (by simp [hP, Nat.add_mul]) (by rw [List.length_drop]; show X.length - c * s.k = s.k; omega)).1 (by show (if 0 < s.ar then s.ar - (c : Int) else s.ar) ≤ 0 ∨ 1 < (if 0 < s.ar then s.ar - (c : Int) else s.ar); split <;> omega)
  rw [show ((a : Int) + (c : Int)) = ((a + c : Nat) : Int) by omega, he]
  refine Prod.ext rfl (FlS.ext ?_ rfl ?_ rfl rfl ?_)
  ·show P ++ List.replicate (c * s.k) 255 ++ (List.replicate s.k 255 ++ Q) = P ++ (List.replicate ((c + 1) * s.k) 255 ++ Q)
   rw [List.append_assoc, ← List.append_assoc (List.replicate _ _), List.replicate_append_replicate, Nat.add_mul, Nat.one_mul]
  ·show (if 0 < (if 0 < s.ar then s.ar - (c : Int) else s.ar) then (if 0 < s.ar then s.ar - (c : Int) else s.ar) - 1 else (if 0 < s.ar then s.ar - (c : Int) else s.ar)) = if 0 < s.ar then s.ar - ((c + 1 : Nat) : Int) else s.ar
   by_cases h0 : 0 < s.ar
   ·simp only [if_pos h0]; rw [if_pos (by omega)]; omega
   ·simp only [if_neg h0]
  ·show s.wr + (c : Int) + 1 = s.wr + ((c + 1 : Nat) : Int); omega
end
end Go.Proofs.YtmjpbmcbcppkfaaGreatDoor
namespace Go.Proofs.YtmjpbmcbcppkfaaGreatDoor
set_option linter.unusedVariables false
set_option linter.unusedSimpArgs false
section
variable {s : FlS} {a c : Nat} {P X : List UInt8} {m : Nat} {Q : List UInt8} {g : Int}
theorem format_all (hd : s.dd = false) (hk : 0 < s.k) (hl : s.l = P ++ (X ++ Q)) (hP : P.length = a * s.k) (hX : X.length = c * s.k) (h12 : 12 ≤ c * s.k) (h : s.ar ≤ 0 ∨ (c : Int) + 12 < s.ar) :
    s.format a c g = (0, ⟨P ++ (headB g ++ (List.replicate (c * s.k - 12) 255 ++ Q)), s.k, if 0 < s.ar then s.ar - (c + 12) else s.ar, s.pt, false, s.wr + (c + 12)⟩) := by
 have hB := headB_len g
 unfold FlS.format
 rw [wipe_all c X Q hd hk hl hP hX (by omega), if_pos rfl]
 rw [prog_all (m := headB g) (p := P) (q := List.replicate (headB g).length 255) (r := List.replicate (c * s.k - 12) 255 ++ Q) rfl (by show (a : Int) * (s.k : Int) = _; rw [hP, Int.natCast_mul]) (by simp) (by show P ++ (List.replicate (c * s.k) 255 ++ Q) = _; rw [hB, rep_split h12]) (by rw [hB]; show (if 0 < s.ar then s.ar - (c : Int) else s.ar) ≤ 0 ∨ ((12 : Nat) : Int) < (if 0 < s.ar then s.ar - (c : Int) else s.ar); split <;> omega), zip_ff]
 refine Prod.ext rfl (FlS.ext rfl rfl ?_ rfl rfl ?_)
 ·rw [hB]
  show (if 0 < (if 0 < s.ar then s.ar - (c : Int) else s.ar) then (if 0 < s.ar then s.ar - (c : Int) else s.ar) - ((12 : Nat) : Int) else (if 0 < s.ar then s.ar - (c : Int) else s.ar)) = _
  by_cases h0 : 0 < s.ar
  ·simp only [if_pos h0]; rw [if_pos (by omega)]; omega
  ·simp only [if_neg h0]
 ·rw [hB]; show s.wr + (c : Int) + ((12 : Nat) : Int) = s.wr + (c + 12); omega
theorem numB_head (g : Int) (hg : 0 ≤ g ∧ g ≤ 4294967295) (r : List UInt8) : numB (((headB g ++ r).drop 4).take 4) = g.toNat := by
 have e : ((headB g ++ r).drop 4).take 4 = leB 4 g := by
  unfold headB headX
  simp only [List.cons_append, List.nil_append, List.append_assoc, List.drop_succ_cons, List.drop_zero]
  exact List.take_left' (leB_len 4 g)
 have e2 : g = ((g.toNat : Nat) : Int) := by omega
 rw [e, e2, numB_leB]
 exact Nat.mod_eq_of_lt (by omega)
def headR (g : Int) : List UInt8 := headB g ++ [254, 255, 255, 255]
theorem headR_len (g : Int) : (headR g).length = 16 := by simp [headR, headB_len]
theorem head_is (hd : s.dd = false) (hl : s.l = P ++ (headR g ++ Q)) (hP : P.length = a * s.k) (hg : 0 ≤ g ∧ g ≤ 4294967295) : s.head a = (g, true, 0) := by
 have e : (s.l.drop (a * s.k)).take 16 = headR g := by
  rw [hl, ← hP, List.drop_left]
  exact List.take_left' (headR_len g)
 have e12 : (headR g).take 12 = headB g := List.take_left' (headB_len g)
 have en : numB (((headR g).drop 4).take 4) = g.toNat := numB_head g hg _
 have eg : (headR g).getD 12 0 = 254 := by
  unfold headR
  rw [List.getD_eq_getElem?_getD, List.getElem?_append_right (by rw [headB_len]; exact Nat.le_refl _), headB_len]; rfl
 have e2 : ((g.toNat : Nat) : Int) = g := by omega
 unfold FlS.head
 rw [hd, e, e12, en, e2, eg, if_neg (by simp), if_pos rfl]
 rfl
theorem head_not (hd : s.dd = false) (hl : s.l = P ++ (X ++ Q)) (hP : P.length = a * s.k) (hX : 16 ≤ X.length) (h : X.head? = some 255 ∨ X[12]? = some 255) : (s.head a).2.1 = false ∧ (s.head a).2.2 = 0 := by
 have e : (s.l.drop (a * s.k)).take 16 = X.take 16 := by
  rw [hl, ← hP, List.drop_left, List.take_append_of_le_length hX]
 unfold FlS.head
 rw [hd, e, if_neg (by simp)]
 rcases h with h | h
 ·rw [if_neg]
  ·exact ⟨rfl, rfl⟩
  ·intro q
   have := congrArg List.head? q
   cases X with
   | nil => cases h
   | cons b X =>
    rw [List.head?_cons] at h
    obtain rfl := Option.some.inj h
    rw [List.take_succ_cons, List.take_succ_cons, List.head?_cons] at this
    exact absurd (Option.some.inj this) (by show ¬ ((255 : UInt8) = 76); decide)
 ·split
  ·refine ⟨?_, rfl⟩
   show decide ((((X.take 16).getD 12 0).toNat : Int) = 254) = false
   rw [List.getD_eq_getElem?_getD, List.getElem?_take_of_lt (by decide), h]
   rfl
  ·exact ⟨rfl, rfl⟩
end
end Go.Proofs.YtmjpbmcbcppkfaaGreatDoor
