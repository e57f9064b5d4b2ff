/- What the bank's calls make of its records: the plain law. Conditions: the premises of each law. -/
import Derived.Test.YtddocchgikaahaaDoorBp2
namespace Go.Proofs.YtddocchgikaahaaDoor
set_option linter.unusedVariables false
set_option linter.unusedSimpArgs false
theorem FlS.ext {s t : FlS} (h1 : s.l = t.l) (h2 : s.k = t.k) (h3 : s.ar = t.ar) (h4 : s.pt = t.pt) (h5 : s.dd = t.dd) (h6 : s.wr = t.wr) : s = t := by
  cases s; cases t; simp_all
theorem rep_split {m n : Nat} (h : n ≤ m) (b : UInt8) (r : List UInt8) : List.replicate m b ++ r = List.replicate n b ++ (List.replicate (m - n) b ++ r) := by
  rw [← List.append_assoc, List.replicate_append_replicate, Nat.add_sub_cancel' h]
theorem add3_all {s : FlS} {A : Int} {d : Rc} {p r : List UInt8} {m : Nat} (hd : s.dd = false) (hA : A = p.length) (hl : s.l = p ++ (List.replicate m 255 ++ r)) (hm : lenR d ≤ m) (hc : d.lv = true) (h : s.ar ≤ 0 ∨ (lenR d + 1 : Int) < s.ar) :
    s.add3 A d.key d.val = (0, ⟨p ++ (encR d ++ (List.replicate (m - lenR d) 255 ++ r)), s.k, if 0 < s.ar then s.ar - (lenR d + 1) else s.ar, s.pt, false, s.wr + (lenR d + 1)⟩) := by
  have hL : (layB d.key d.val).length + 1 = lenR d := by rw [layB_len]; unfold lenR; omega
  have hL' : ((layB d.key d.val).length : Int) + 1 = lenR d := by omega
  have e1 : s.prog A [254] = (0, ⟨p ++ ([254] ++ (List.replicate (m - 1) 255 ++ r)), s.k, if 0 < s.ar then s.ar - 1 else s.ar, s.pt, false, s.wr + 1⟩) :=
    prog_all (m := [254]) (p := p) (q := [255]) (r := List.replicate (m - 1) 255 ++ r) hd hA rfl (by rw [hl, rep_split (by omega : 1 ≤ m)]; rfl) (by simp only [List.length_singleton]; omega)
  have e2 : FlS.prog ⟨p ++ ([254] ++ (List.replicate (m - 1) 255 ++ r)), s.k, if 0 < s.ar then s.ar - 1 else s.ar, s.pt, false, s.wr + 1⟩ (A + 1) (layB d.key d.val) = (0, ⟨p ++ ([254] ++ (layB d.key d.val ++ (List.replicate (m - lenR d) 255 ++ r))), s.k, if 0 < s.ar then s.ar - lenR d else s.ar, s.pt, false, s.wr + lenR d⟩) := by
    rw [prog_all (m := layB d.key d.val) (p := p ++ [254]) (q := List.replicate (layB d.key d.val).length 255) (r := List.replicate (m - lenR d) 255 ++ r) rfl (by rw [hA]; simp) (by simp) (by
      show p ++ ([254] ++ (List.replicate (m - 1) 255 ++ r)) = _
      rw [rep_split (by omega : (layB d.key d.val).length ≤ m - 1), show m - 1 - (layB d.key d.val).length = m - lenR d by omega]
      simp) (by show (if 0 < s.ar then s.ar - 1 else s.ar) ≤ 0 ∨ ((layB d.key d.val).length : Int) < (if 0 < s.ar then s.ar - 1 else s.ar); split <;> omega), zip_ff, List.append_assoc]
    refine Prod.ext rfl (FlS.ext rfl rfl ?_ rfl rfl ?_)
    · show (if 0 < (if 0 < s.ar then s.ar - 1 else s.ar) then (if 0 < s.ar then s.ar - 1 else s.ar) - ((layB d.key d.val).length : Int) else (if 0 < s.ar then s.ar - 1 else s.ar)) = _
      by_cases h0 : 0 < s.ar
      · simp only [if_pos h0]; rw [if_pos (by omega)]; omega
      · simp only [if_neg h0]
    · show s.wr + 1 + ((layB d.key d.val).length : Int) = s.wr + lenR d; omega
  have e3 : FlS.prog ⟨p ++ ([254] ++ (layB d.key d.val ++ (List.replicate (m - lenR d) 255 ++ r))), s.k, if 0 < s.ar then s.ar - lenR d else s.ar, s.pt, false, s.wr + lenR d⟩ A [252] = (0, ⟨p ++ (encR d ++ (List.replicate (m - lenR d) 255 ++ r)), s.k, if 0 < s.ar then s.ar - (lenR d + 1) else s.ar, s.pt, false, s.wr + (lenR d + 1)⟩) := by
    rw [prog_all (m := [252]) (p := p) (q := [254]) (r := layB d.key d.val ++ (List.replicate (m - lenR d) 255 ++ r)) rfl hA rfl rfl (by show (if 0 < s.ar then s.ar - lenR d else s.ar) ≤ 0 ∨ (([252] : List UInt8).length : Int) < (if 0 < s.ar then s.ar - lenR d else s.ar); simp only [List.length_singleton]; split <;> omega)]
    refine Prod.ext rfl (FlS.ext ?_ rfl ?_ rfl rfl ?_)
    · show p ++ ([252] ++ (layB d.key d.val ++ (List.replicate (m - lenR d) 255 ++ r))) = _
      simp [encR, hc]
    · show (if 0 < (if 0 < s.ar then s.ar - (lenR d : Int) else s.ar) then (if 0 < s.ar then s.ar - (lenR d : Int) else s.ar) - ((([252] : List UInt8).length : Nat) : Int) else (if 0 < s.ar then s.ar - (lenR d : Int) else s.ar)) = _
      simp only [List.length_singleton]
      by_cases h0 : 0 < s.ar
      · simp only [if_pos h0]; rw [if_pos (by omega)]; omega
      · simp only [if_neg h0]
    · show s.wr + (lenR d : Int) + (([252] : List UInt8).length : Int) = s.wr + (lenR d + 1); simp only [List.length_singleton]; omega
  unfold FlS.add3
  rw [e1]
  rw [if_neg (by simp)]
  rw [e2]
  rw [if_neg (by simp)]
  exact e3
/-- the power goes in one of the three writes: the place holds no record -/
theorem add3_cut {s : FlS} {A : Int} {d : Rc} {p r : List UInt8} {m : Nat} (hd : s.dd = false) (hA : A = p.length) (hl : s.l = p ++ (List.replicate m 255 ++ r)) (hm : lenR d ≤ m) (h0 : 0 < s.ar) (h : s.ar ≤ (lenR d + 1 : Int)) :
    ∃ (y : List UInt8) (w : Int), s.add3 A d.key d.val = (6, ⟨p ++ (y ++ r), s.k, 0, s.pt, true, w⟩) ∧ y.length = m ∧ ∀ b, y.head? = some b → b = 255 ∨ b = 254 := by
  have hL : (layB d.key d.val).length + 1 = lenR d := by rw [layB_len]; unfold lenR; omega
  have h12 : 12 ≤ lenR d := by unfold lenR; omega
  have hm1 : m = m - 1 + 1 := by omega
  by_cases ha1 : s.ar = 1
  · have e1 := prog_cut (s := s) (A := A) (m := [254]) (p := p) (q := [255]) (r := List.replicate (m - 1) 255 ++ r) hd hA rfl (by rw [hl, rep_split (by omega : 1 ≤ m)]; rfl) h0 (by simp only [List.length_singleton]; omega)
    refine ⟨List.replicate m 255, s.wr + (s.ar - 1), ?_, by simp, fun b hb => .inl ?_⟩
    · unfold FlS.add3
      rw [e1, if_pos (by simp), ha1]
      rw [rep_split (by omega : 1 ≤ m)]
      rfl
    · rw [hm1, List.replicate_succ] at hb
      exact (Option.some.inj hb).symm
  have e1 : s.prog A [254] = (0, ⟨p ++ ([254] ++ (List.replicate (m - 1) 255 ++ r)), s.k, s.ar - 1, s.pt, false, s.wr + 1⟩) := by
    rw [prog_all (m := [254]) (p := p) (q := [255]) (r := List.replicate (m - 1) 255 ++ r) hd hA rfl (by rw [hl, rep_split (by omega : 1 ≤ m)]; rfl) (by simp only [List.length_singleton]; omega), if_pos h0]
    rfl
  by_cases ha2 : s.ar ≤ lenR d
  · have e2 := prog_cut (s := ⟨p ++ ([254] ++ (List.replicate (m - 1) 255 ++ r)), s.k, s.ar - 1, s.pt, false, s.wr + 1⟩) (A := A + 1) (m := layB d.key d.val) (p := p ++ [254]) (q := List.replicate (layB d.key d.val).length 255) (r := List.replicate (m - lenR d) 255 ++ r) rfl (by rw [hA]; simp) (by simp) (by
      show p ++ ([254] ++ (List.replicate (m - 1) 255 ++ r)) = _
      rw [rep_split (by omega : (layB d.key d.val).length ≤ m - 1), show m - 1 - (layB d.key d.val).length = m - lenR d by omega]
      simp) (by show 0 < s.ar - 1; omega) (by show s.ar - 1 ≤ ((layB d.key d.val).length : Int); omega)
    refine ⟨[254] ++ (List.zipWith (· &&& ·) ((List.replicate (layB d.key d.val).length 255).take ((s.ar - 1).toNat - 1)) ((layB d.key d.val).take ((s.ar - 1).toNat - 1)) ++ ((List.replicate (layB d.key d.val).length 255).drop ((s.ar - 1).toNat - 1) ++ List.replicate (m - lenR d) 255)), s.wr + 1 + (s.ar - 1 - 1), ?_, ?_, fun b hb => by rw [List.cons_append, List.head?_cons] at hb; exact .inr (Option.some.inj hb).symm⟩
    · unfold FlS.add3
      rw [e1, if_neg (by simp), e2, if_pos (by simp)]
      simp only [List.append_assoc]
    · simp; omega
  · have ha3 : s.ar = lenR d + 1 := by omega
    have e2 : FlS.prog ⟨p ++ ([254] ++ (List.replicate (m - 1) 255 ++ r)), s.k, s.ar - 1, s.pt, false, s.wr + 1⟩ (A + 1) (layB d.key d.val) = (0, ⟨p ++ ([254] ++ (layB d.key d.val ++ (List.replicate (m - lenR d) 255 ++ r))), s.k, 1, s.pt, false, s.wr + lenR d⟩) := by
      rw [prog_all (m := layB d.key d.val) (p := p ++ [254]) (q := List.replicate (layB d.key d.val).length 255) (r := List.replicate (m - lenR d) 255 ++ r) rfl (by rw [hA]; simp) (by simp) (by
        show p ++ ([254] ++ (List.replicate (m - 1) 255 ++ r)) = _
        rw [rep_split (by omega : (layB d.key d.val).length ≤ m - 1), show m - 1 - (layB d.key d.val).length = m - lenR d by omega]
        simp) (by show s.ar - 1 ≤ 0 ∨ ((layB d.key d.val).length : Int) < s.ar - 1; omega), zip_ff, List.append_assoc]
      refine Prod.ext rfl (FlS.ext rfl rfl ?_ rfl rfl ?_)
      · show (if 0 < s.ar - 1 then s.ar - 1 - ((layB d.key d.val).length : Int) else s.ar - 1) = 1
        rw [if_pos (by omega)]; omega
      · show s.wr + 1 + ((layB d.key d.val).length : Int) = s.wr + lenR d; omega
    have e3 := prog_cut (s := ⟨p ++ ([254] ++ (layB d.key d.val ++ (List.replicate (m - lenR d) 255 ++ r))), s.k, 1, s.pt, false, s.wr + lenR d⟩) (A := A) (m := [252]) (p := p) (q := [254]) (r := layB d.key d.val ++ (List.replicate (m - lenR d) 255 ++ r)) rfl hA rfl rfl (by show (0 : Int) < 1; decide) (by show (1 : Int) ≤ _; decide)
    refine ⟨[254] ++ (layB d.key d.val ++ List.replicate (m - lenR d) 255), s.wr + lenR d + (1 - 1), ?_, by simp; omega, fun b hb => by rw [List.cons_append, List.head?_cons] at hb; exact .inr (Option.some.inj hb).symm⟩
    unfold FlS.add3
    rw [e1, if_neg (by simp), e2, if_neg (by simp), e3]
    simp
/-- a bank that holds records, behind them room that was not written -/
structure BI (s : FlS) (a c : Nat) (P H : List UInt8) (l : List Rc) (m : Nat) (Q : List UInt8) : Prop where
  img : s.l = P ++ (H ++ (encL l ++ (List.replicate m 255 ++ Q)))
  P : P.length = a * s.k
  H : H.length = 16
  n : 16 + (encL l).length + m = c * s.k
  pl : Placed 16 l
  dd : s.dd = false
theorem bank_of {s : FlS} {a c : Nat} {P X Q : List UInt8} (hl : s.l = P ++ (X ++ Q)) (hP : P.length = a * s.k) (hX : X.length = c * s.k) : s.bank a c = X := by
  unfold FlS.bank
  rw [hl, ← hP, List.drop_left, ← hX, List.take_left]
theorem scan_of {s : FlS} {a c : Nat} {P H y Q : List UInt8} {l : List Rc} (hl : s.l = P ++ (H ++ (encL l ++ (y ++ Q)))) (hP : P.length = a * s.k) (hH : H.length = 16) (hn : 16 + (encL l).length + y.length = c * s.k) (hp : Placed 16 l)
    (hy : ∀ b, y.head? = some b → b = 255 ∨ b = 254) : s.scan a c = (l, 16 + (encL l).length, decide (y.head? ≠ some 254)) := by
  have hb : s.bank a c = H ++ (encL l ++ y) := bank_of (P := P) (Q := Q) (by rw [hl]; simp) hP (by simp only [List.length_append]; omega)
  unfold FlS.scan
  rw [hb]
  exact scan_enc (H ++ (encL l ++ y)) y hy l 16 (by simp only [List.length_append]; omega) (by rw [← hH, List.drop_left]) hp
theorem ff_head {m : Nat} {b : UInt8} (h : (List.replicate m (255 : UInt8)).head? = some b) : b = 255 := by
  cases m with
  | zero => simp at h
  | succ m => rw [List.replicate_succ] at h; exact (Option.some.inj h).symm
theorem ff_nhead (m : Nat) : decide ((List.replicate m (255 : UInt8)).head? ≠ some 254) = true := by
  rw [decide_eq_true_iff]
  intro h
  exact absurd (ff_head h) (by decide)
section
variable {s : FlS} {a c : Nat} {P H : List UInt8} {l : List Rc} {m : Nat} {Q : List UInt8}
theorem BI.scan (h : BI s a c P H l m Q) : s.scan a c = (l, 16 + (encL l).length, true) := by
  rw [scan_of h.img h.P h.H (by rw [List.length_replicate]; exact h.n) h.pl (fun b hb => .inl (ff_head hb)), ff_nhead]
theorem add_eq {s : FlS} {a c : Nat} {d : Rc} (ho : OkR d) (hd : s.dd = false) {l : List Rc} {e : Nat} (hs : s.scan a c = (l, e, true)) (he : lenR d + e ≤ c * s.k) : s.add a c d.key d.val = s.add3 ((a : Int) * s.k + (e : Int)) d.key d.val := by
  have hk := ho.k
  have hv := ho.v
  have hle : ((lenR d + e : Nat) : Int) ≤ ((c * s.k : Nat) : Int) := by exact_mod_cast he
  unfold lenR at hle
  rw [Int.natCast_mul] at hle
  unfold FlS.add
  rw [if_neg (by omega), hd, if_neg (by simp), hs, if_neg (by simp), if_neg (by simp only; omega)]
theorem BI.add_all (h : BI s a c P H l m Q) {d : Rc} (ho : OkR d) (hl : d.lv = true) (hat : d.at_ = 16 + (encL l).length) (hm : lenR d ≤ m) (har : s.ar ≤ 0 ∨ (lenR d + 1 : Int) < s.ar) :
    ∃ s', s.add a c d.key d.val = (0, s') ∧ BI s' a c P H (l ++ [d]) (m - lenR d) Q ∧ s'.k = s.k ∧ s'.ar = if 0 < s.ar then s.ar - (lenR d + 1) else s.ar := by
  have hn := h.n
  have hH := h.H
  have hP := h.P
  have e := add3_all (s := s) (A := (a : Int) * s.k + ((16 + (encL l).length : Nat) : Int)) (d := d) (p := P ++ (H ++ encL l)) (r := Q) (m := m) h.dd (by
    simp only [List.length_append, hH, hP, Int.natCast_add, Int.natCast_mul]) (by rw [h.img]; simp) hm hl har
  rw [add_eq ho h.dd h.scan (by omega), e]
  refine ⟨_, rfl, ⟨?_, hP, hH, ?_, (placed_snoc d l 16).2 ⟨h.pl, hat, ho⟩, rfl⟩, rfl, rfl⟩
  · simp [encL_append, encL]
  · rw [encL_append, List.length_append]
    simp only [encL, List.flatMap_cons, List.flatMap_nil, List.append_nil, encR_len]
    show 16 + ((List.flatMap encR l).length + lenR d) + (m - lenR d) = c * s.k
    have : (List.flatMap encR l).length = (encL l).length := rfl
    omega
theorem BI.add_cut (h : BI s a c P H l m Q) {d : Rc} (ho : OkR d) (hl : d.lv = true) (hm : lenR d ≤ m) (h0 : 0 < s.ar) (har : s.ar ≤ (lenR d + 1 : Int)) :
    ∃ s', s.add a c d.key d.val = (6, s') ∧ s'.dd = true ∧ s'.k = s.k ∧ (s'.on.2.scan a c).1 = l := by
  have hn := h.n
  have hH := h.H
  have hP := h.P
  obtain ⟨y, w, e, hy, hb⟩ := add3_cut (s := s) (A := (a : Int) * s.k + ((16 + (encL l).length : Nat) : Int)) (d := d) (p := P ++ (H ++ encL l)) (r := Q) (m := m) h.dd (by
    simp only [List.length_append, hH, hP, Int.natCast_add, Int.natCast_mul]) (by rw [h.img]; simp) hm h0 har
  rw [add_eq ho h.dd h.scan (by omega), e]
  refine ⟨_, rfl, rfl, rfl, ?_⟩
  have := scan_of (s := (FlS.on ⟨P ++ (H ++ encL l) ++ (y ++ Q), s.k, 0, s.pt, true, w⟩).2) (a := a) (c := c) (P := P) (H := H) (y := y) (Q := Q) (l := l) (by simp [FlS.on]) hP hH (by rw [hy]; exact hn) h.pl hb
  rw [this]
theorem BI.add_full (h : BI s a c P H l m Q) {key val : List UInt8} (hk : 1 ≤ key.length ∧ key.length ≤ 255) (hv : val.length ≤ 65536) (hm : m < 12 + key.length + val.length) : s.add a c key val = (5, s) := by
  have hn := h.n
  have hle : ((16 + (encL l).length + m : Nat) : Int) = (c : Int) * s.k := by rw [hn, Int.natCast_mul]
  unfold FlS.add
  rw [if_neg (by omega), h.dd, if_neg (by simp), h.scan, if_neg (by simp), if_pos (by simp only; omega)]
theorem add_arg {key val : List UInt8} (h : key.length < 1 ∨ 255 < key.length ∨ 65536 < val.length) : s.add a c key val = (1, s) := by
  unfold FlS.add
  rw [if_pos h]
end
end Go.Proofs.YtddocchgikaahaaDoor
