/- What Kill, Arm, On and the erasures make of a bank's records: the plain law. Conditions: the premises of each law. -/
import Derived.Test.YtddocchgikaahaaDoorBp3
namespace Go.Proofs.YtddocchgikaahaaDoor
set_option linter.unusedVariables false
set_option linter.unusedSimpArgs false
theorem placed_append : ∀ (l l2 : List Rc) (a : Nat), Placed a (l ++ l2) ↔ Placed a l ∧ Placed (a + (encL l).length) l2
  | [], l2, a => by simp [Placed, encL]
  | d :: l, l2, a => by
    simp only [List.cons_append, Placed, placed_append l l2, encL_cons, List.length_append, encR_len, Nat.add_assoc, and_assoc]
/-- the same record, gone -/
def Rc.die (d : Rc) : Rc := ⟨d.key, d.val, false, d.at_⟩
theorem placed_mid {l1 l2 : List Rc} {d : Rc} {a : Nat} (h : Placed a (l1 ++ d :: l2)) : d.at_ = a + (encL l1).length ∧ OkR d ∧ Placed a (l1 ++ d.die :: l2) := by
  rw [placed_append] at h
  obtain ⟨h1, h2, h3, h4⟩ := h
  exact ⟨h2, h3, (placed_append _ _ _).2 ⟨h1, h2, ⟨h3.k, h3.v⟩, h4⟩⟩
section
variable {s : FlS} {a c : Nat} {P H : List UInt8} {l l1 l2 : List Rc} {d : Rc} {m : Nat} {Q : List UInt8}
theorem BI.kill_arg (h : BI s a c P H l m Q) {i : Int} (hi : i < 0 ∨ (l.length : Int) ≤ i) : s.kill a c i = (1, s) := by
  unfold FlS.kill
  rw [h.dd, if_neg (by simp), h.scan, if_pos hi]
theorem BI.kill_eq (h : BI s a c P H (l1 ++ d :: l2) m Q) : s.kill a c (l1.length : Int) = s.prog ((P ++ (H ++ encL l1)).length : Int) [248] := by
  obtain ⟨h1, h2, h3⟩ := placed_mid h.pl
  unfold FlS.kill
  rw [h.dd, if_neg (by simp), h.scan, if_neg (by simp only [List.length_append, List.length_cons]; omega)]
  have e : ((l1 ++ d :: l2).map fun r => (r.at_ : Int)).getD (l1.length : Int).toNat 0 = d.at_ := by
    rw [Int.toNat_natCast, List.getD_eq_getElem?_getD, List.map_append, List.getElem?_append_right (by simp)]
    simp
  have e2 : ((a : Int) * s.k + (d.at_ : Int)) = ((P ++ (H ++ encL l1)).length : Int) := by
    rw [h1]
    simp only [List.length_append, h.P, h.H, Int.natCast_add, Int.natCast_mul]
  simp only [e, e2]
theorem BI.kill_img (h : BI s a c P H (l1 ++ d :: l2) m Q) : s.l = (P ++ (H ++ encL l1)) ++ ([if d.lv then 252 else 248] ++ (layB d.key d.val ++ (encL l2 ++ (List.replicate m 255 ++ Q)))) := by
  rw [h.img, encL_append, encL_cons]
  simp [encR]
theorem die_img (l1 l2 : List Rc) (d : Rc) (y : List UInt8) : (P ++ (H ++ encL l1)) ++ ([248] ++ (layB d.key d.val ++ (encL l2 ++ y))) = P ++ (H ++ (encL (l1 ++ d.die :: l2) ++ y)) := by
  rw [encL_append, encL_cons]
  simp [encR, Rc.die]
theorem die_len (l1 l2 : List Rc) (d : Rc) : (encL (l1 ++ d.die :: l2)).length = (encL (l1 ++ d :: l2)).length := by
  simp only [encL_append, encL_cons, List.length_append, encR_len]
  rfl
theorem BI.kill_all (h : BI s a c P H (l1 ++ d :: l2) m Q) (har : s.ar ≤ 0 ∨ 1 < s.ar) :
    ∃ s', s.kill a c (l1.length : Int) = (0, s') ∧ BI s' a c P H (l1 ++ d.die :: l2) m Q ∧ s'.k = s.k ∧ s'.ar = if 0 < s.ar then s.ar - 1 else s.ar := by
  rw [h.kill_eq, prog_all (m := [248]) (p := P ++ (H ++ encL l1)) (q := [if d.lv then 252 else 248]) h.dd rfl rfl h.kill_img (by simp only [List.length_singleton]; omega)]
  have hz : List.zipWith (· &&& ·) [if d.lv then (252 : UInt8) else 248] [248] = [248] := by cases d.lv <;> rfl
  rw [hz, die_img]
  refine ⟨_, rfl, ⟨rfl, h.P, h.H, ?_, (placed_mid h.pl).2.2, rfl⟩, rfl, rfl⟩
  rw [die_len]; exact h.n
theorem BI.kill_cut (h : BI s a c P H (l1 ++ d :: l2) m Q) (har : s.ar = 1) :
    ∃ s', s.kill a c (l1.length : Int) = (6, s') ∧ s'.dd = true ∧ s'.k = s.k ∧ BI s'.on.2 a c P H (l1 ++ d :: l2) m Q := by
  rw [h.kill_eq, prog_cut (m := [248]) (p := P ++ (H ++ encL l1)) (q := [if d.lv then 252 else 248]) h.dd rfl rfl h.kill_img (by omega) (by simp only [List.length_singleton]; omega)]
  refine ⟨_, rfl, rfl, rfl, ⟨?_, h.P, h.H, h.n, h.pl, rfl⟩⟩
  rw [har]
  show (P ++ (H ++ encL l1)) ++ ([if d.lv then 252 else 248] ++ (layB d.key d.val ++ (encL l2 ++ (List.replicate m 255 ++ Q)))) = _
  rw [← h.kill_img, h.img]
theorem BI.arm (h : BI s a c P H l m Q) {x y : Int} (hx : 0 ≤ x) (hy : 0 ≤ y) : ∃ s', s.arm x y = (0, s') ∧ BI s' a c P H l m Q ∧ s'.k = s.k ∧ s'.ar = x ∧ s'.pt = y := by
  unfold FlS.arm
  rw [h.dd, if_neg (by simp), if_neg (by omega)]
  exact ⟨_, rfl, ⟨h.img, h.P, h.H, h.n, h.pl, rfl⟩, rfl, rfl, rfl⟩
theorem BI.on (h : BI s a c P H l m Q) : s.on = (12, s) := by
  unfold FlS.on
  rw [h.dd, if_neg (by simp)]
theorem erase_in {x : Nat} {X : List UInt8} (hd : s.dd = false) (hk : 0 < s.k) (hl : s.l = P ++ (X ++ Q)) (hP : P.length = x * s.k) (hX : X.length = s.k) :
    (s.ar ≤ 0 ∨ 1 < s.ar → s.erase (x : Int) = (0, ⟨P ++ (List.replicate s.k 255 ++ Q), s.k, if 0 < s.ar then s.ar - 1 else s.ar, s.pt, false, s.wr + 1⟩)) ∧
    (s.ar = 1 → s.erase (x : Int) = (6, ⟨P ++ (List.replicate (min s.pt (s.k : Int)).toNat 255 ++ (X.drop (min s.pt (s.k : Int)).toNat ++ Q)), s.k, 0, s.pt, true, s.wr⟩)) := by
  have hlen : s.l.length = x * s.k + (s.k + Q.length) := by rw [hl, List.length_append, List.length_append, hP, hX]
  have hin : 0 ≤ (x : Int) ∧ (x : Int) < (s.l.length : Int) / (s.k : Int) := by
    refine ⟨by omega, ?_⟩
    rw [← Int.natCast_ediv]
    have : x + 1 ≤ s.l.length / s.k := (Nat.le_div_iff_mul_le hk).2 (by rw [hlen, Nat.add_mul]; omega)
    omega
  constructor
  · intro ha
    have hg : s.goes = false := by
      unfold FlS.goes
      split
      · rw [decide_eq_false_iff_not]; omega
      · rfl
    unfold FlS.erase
    rw [hd, if_neg (by simp), if_pos hin, hg]
    simp only [Bool.false_eq_true, if_false, Int.toNat_natCast]
    rw [hl, ← hP, fillN_mid s.k P X Q hX]
  · intro ha
    have hg : s.goes = true := by
      unfold FlS.goes
      rw [ha]; rfl
    have hle : (min s.pt (s.k : Int)).toNat ≤ s.k := by omega
    have e : X ++ Q = X.take (min s.pt (s.k : Int)).toNat ++ (X.drop (min s.pt (s.k : Int)).toNat ++ Q) := by rw [← List.append_assoc, List.take_append_drop]
    unfold FlS.erase
    rw [hd, if_neg (by simp), if_pos hin, hg]
    simp only [if_true, Int.toNat_natCast]
    rw [hl, ← hP, e, fillN_mid _ P (X.take (min s.pt (s.k : Int)).toNat) _ (by rw [List.length_take, hX]; omega), ha]
    rfl
/-- the erasures of all sectors go through -/
theorem wipe_all : ∀ (c : Nat) (X Q : List UInt8), s.dd = false → 0 < s.k → s.l = P ++ (X ++ Q) → P.length = a * s.k → X.length = c * s.k → (s.ar ≤ 0 ∨ (c : Int) < s.ar) →
    s.wipe a c = (0, ⟨P ++ (List.replicate (c * s.k) 255 ++ Q), s.k, if 0 < s.ar then s.ar - c else s.ar, s.pt, false, s.wr + c⟩)
  | 0, X, Q, hd, hk, hl, hP, hX, h => by
    obtain rfl := List.eq_nil_of_length_eq_zero (by rw [hX]; simp : X.length = 0)
    refine Prod.ext rfl (FlS.ext ?_ rfl ?_ rfl hd ?_)
    · show s.l = P ++ (List.replicate (0 * s.k) 255 ++ Q)
      rw [hl, Nat.zero_mul]; rfl
    · show s.ar = if 0 < s.ar then s.ar - ((0 : Nat) : Int) else s.ar
      split <;> simp
    · show s.wr = s.wr + ((0 : Nat) : Int); simp
  | c + 1, X, Q, hd, hk, hl, hP, hX, h => by
    have hX2 : X.length = c * s.k + s.k := by rw [hX, Nat.add_mul]; omega
    have e : X ++ Q = X.take (c * s.k) ++ (X.drop (c * s.k) ++ Q) := by rw [← List.append_assoc, List.take_append_drop]
    have ih := wipe_all c (X.take (c * s.k)) (X.drop (c * s.k) ++ Q) hd hk (by rw [hl, e]) hP (by rw [List.length_take]; omega) (by omega)
    unfold FlS.wipe
    rw [ih]
    simp only [if_true]
    have he := (erase_in (s := ⟨P ++ (List.replicate (c * s.k) 255 ++ (X.drop (c * s.k) ++ Q)), s.k, if 0 < s.ar then s.ar - c else s.ar, s.pt, false, s.wr + c⟩) (x := a + c) (P := P ++ List.replicate (c * s.k) 255) (X := X.drop (c * s.k)) (Q := Q) rfl hk (by simp) (by simp [hP, Nat.add_mul]) (by rw [List.length_drop]; show X.length - c * s.k = s.k; omega)).1 (by show (if 0 < s.ar then s.ar - (c : Int) else s.ar) ≤ 0 ∨ 1 < (if 0 < s.ar then s.ar - (c : Int) else s.ar); split <;> omega)
    rw [show ((a : Int) + (c : Int)) = ((a + c : Nat) : Int) by omega, he]
    refine Prod.ext rfl (FlS.ext ?_ rfl ?_ rfl rfl ?_)
    · show P ++ List.replicate (c * s.k) 255 ++ (List.replicate s.k 255 ++ Q) = P ++ (List.replicate ((c + 1) * s.k) 255 ++ Q)
      rw [List.append_assoc, ← List.append_assoc (List.replicate _ _), List.replicate_append_replicate, Nat.add_mul, Nat.one_mul]
    · show (if 0 < (if 0 < s.ar then s.ar - (c : Int) else s.ar) then (if 0 < s.ar then s.ar - (c : Int) else s.ar) - 1 else (if 0 < s.ar then s.ar - (c : Int) else s.ar)) = if 0 < s.ar then s.ar - ((c + 1 : Nat) : Int) else s.ar
      by_cases h0 : 0 < s.ar
      · simp only [if_pos h0]; rw [if_pos (by omega)]; omega
      · simp only [if_neg h0]
    · show s.wr + (c : Int) + 1 = s.wr + ((c + 1 : Nat) : Int); omega
/-- the power goes in one of the erasures -/
theorem wipe_cut {a c : Nat} {P Q X : List UInt8} (hd : s.dd = false) (hk : 0 < s.k) (hl : s.l = P ++ (X ++ Q)) (hP : P.length = a * s.k) (hX : X.length = c * s.k) (h0 : 0 < s.ar) (h : s.ar ≤ (c : Int)) :
    ∃ (Y : List UInt8) (w : Int), s.wipe a c = (6, ⟨P ++ (Y ++ Q), s.k, 0, s.pt, true, w⟩) ∧ Y.length = X.length ∧ (Y = X ∨ Y.head? = some 255) := by
  obtain ⟨j, hj⟩ : ∃ j : Nat, s.ar = (j : Int) + 1 := ⟨(s.ar - 1).toNat, by omega⟩
  have hjc : j + 1 ≤ c := by omega
  have hmul : (j + 1) * s.k ≤ c * s.k := Nat.mul_le_mul_right _ hjc
  rw [Nat.add_mul, Nat.one_mul] at hmul
  have e : X ++ Q = X.take (j * s.k) ++ (X.drop (j * s.k) ++ Q) := by rw [← List.append_assoc, List.take_append_drop]
  have e2 : X.drop (j * s.k) ++ Q = (X.drop (j * s.k)).take s.k ++ ((X.drop (j * s.k)).drop s.k ++ Q) := by rw [← List.append_assoc, List.take_append_drop]
  have h1 := wipe_all (s := s) (a := a) (P := P) j (X.take (j * s.k)) (X.drop (j * s.k) ++ Q) hd hk (by rw [hl, e]) hP (by rw [List.length_take]; omega) (by omega)
  have he := (erase_in (s := ⟨P ++ (List.replicate (j * s.k) 255 ++ (X.drop (j * s.k) ++ Q)), s.k, if 0 < s.ar then s.ar - j else s.ar, s.pt, false, s.wr + j⟩) (x := a + j) (P := P ++ List.replicate (j * s.k) 255) (X := (X.drop (j * s.k)).take s.k) (Q := (X.drop (j * s.k)).drop s.k ++ Q) rfl hk (by show P ++ (List.replicate (j * s.k) 255 ++ (X.drop (j * s.k) ++ Q)) = _; rw [e2, List.append_assoc]) (by simp [hP, Nat.add_mul]) (by rw [List.length_take, List.length_drop]; show min s.k (X.length - j * s.k) = s.k; omega)).2 (by show (if 0 < s.ar then s.ar - (j : Int) else s.ar) = 1; rw [if_pos h0]; omega)
  have hw : s.wipe a (j + 1) = (6, ⟨P ++ List.replicate (j * s.k) 255 ++ (List.replicate (min s.pt (s.k : Int)).toNat 255 ++ (((X.drop (j * s.k)).take s.k).drop (min s.pt (s.k : Int)).toNat ++ ((X.drop (j * s.k)).drop s.k ++ Q))), s.k, 0, s.pt, true, s.wr + j⟩) := by
    rw [FlS.wipe, h1]
    simp only [if_true]
    rw [show ((a : Int) + (j : Int)) = ((a + j : Nat) : Int) by omega, he]
  have hc : s.wipe a c = s.wipe a (j + 1) := by
    have := wipe_stop s a (m := j + 1) (by rw [hw]; simp) (c - (j + 1))
    rw [Nat.add_sub_cancel' hjc] at this
    exact this
  rw [hc, hw]
  generalize hn : (min s.pt (s.k : Int)).toNat = n
  have hnk : n ≤ s.k := by omega
  refine ⟨List.replicate (j * s.k) 255 ++ (List.replicate n 255 ++ (((X.drop (j * s.k)).take s.k).drop n ++ (X.drop (j * s.k)).drop s.k)), s.wr + j, by simp, ?_, ?_⟩
  · simp only [List.length_append, List.length_replicate, List.length_drop, List.length_take]; omega
  · by_cases hj0 : j = 0
    · subst hj0
      cases n with
      | zero => left; simp
      | succ n => right; simp [List.replicate_succ]
    · right
      have : j * s.k = (j * s.k - 1) + 1 := by have := Nat.mul_pos (Nat.pos_of_ne_zero hj0) hk; omega
      rw [this, List.replicate_succ]; rfl
end
end Go.Proofs.YtddocchgikaahaaDoor
