/- What Format, Ready and Head make of a bank; the bank that a law begins with: the plain law. Conditions: the premises of each law. -/
import Derived.Test.YtddocchgikaahaaDoorBp4
namespace Go.Proofs.YtddocchgikaahaaDoor
set_option linter.unusedVariables false
set_option linter.unusedSimpArgs false
section
variable {s : FlS} {a c : Nat} {P X : List UInt8} {m : Nat} {Q : List UInt8} {g : Int}
theorem format_all (hd : s.dd = false) (hk : 0 < s.k) (hl : s.l = P ++ (X ++ Q)) (hP : P.length = a * s.k) (hX : X.length = c * s.k) (h12 : 12 ≤ c * s.k) (h : s.ar ≤ 0 ∨ (c : Int) + 12 < s.ar) :
    s.format a c g = (0, ⟨P ++ (headB g ++ (List.replicate (c * s.k - 12) 255 ++ Q)), s.k, if 0 < s.ar then s.ar - (c + 12) else s.ar, s.pt, false, s.wr + (c + 12)⟩) := by
  have hB := headB_len g
  unfold FlS.format
  rw [wipe_all c X Q hd hk hl hP hX (by omega), if_pos rfl]
  rw [prog_all (m := headB g) (p := P) (q := List.replicate (headB g).length 255) (r := List.replicate (c * s.k - 12) 255 ++ Q) rfl (by show (a : Int) * (s.k : Int) = _; rw [hP, Int.natCast_mul]) (by simp) (by show P ++ (List.replicate (c * s.k) 255 ++ Q) = _; rw [hB, rep_split h12]) (by rw [hB]; show (if 0 < s.ar then s.ar - (c : Int) else s.ar) ≤ 0 ∨ ((12 : Nat) : Int) < (if 0 < s.ar then s.ar - (c : Int) else s.ar); split <;> omega), zip_ff]
  refine Prod.ext rfl (FlS.ext rfl rfl ?_ rfl rfl ?_)
  · rw [hB]
    show (if 0 < (if 0 < s.ar then s.ar - (c : Int) else s.ar) then (if 0 < s.ar then s.ar - (c : Int) else s.ar) - ((12 : Nat) : Int) else (if 0 < s.ar then s.ar - (c : Int) else s.ar)) = _
    by_cases h0 : 0 < s.ar
    · simp only [if_pos h0]; rw [if_pos (by omega)]; omega
    · simp only [if_neg h0]
  · rw [hB]; show s.wr + (c : Int) + ((12 : Nat) : Int) = s.wr + (c + 12); omega
theorem format_cut (hd : s.dd = false) (hk : 0 < s.k) (hl : s.l = P ++ (X ++ Q)) (hP : P.length = a * s.k) (hX : X.length = c * s.k) (h12 : 12 < c * s.k) (h0 : 0 < s.ar) (h : s.ar ≤ (c : Int) + 12) :
    ∃ (Y : List UInt8) (w : Int), s.format a c g = (6, ⟨P ++ (Y ++ Q), s.k, 0, s.pt, true, w⟩) ∧ Y.length = X.length ∧ (Y = X ∨ Y.head? = some 255 ∨ Y[12]? = some 255) := by
  have hB := headB_len g
  by_cases hc : s.ar ≤ (c : Int)
  · obtain ⟨Y, w, h1, h2, h3⟩ := wipe_cut hd hk hl hP hX h0 hc
    refine ⟨Y, w, ?_, h2, h3.imp id .inl⟩
    unfold FlS.format
    rw [h1, if_neg (by simp)]
  · have e1 := wipe_all c X Q hd hk hl hP hX (by omega)
    rw [if_pos h0] at e1
    have e2 := prog_cut (s := ⟨P ++ (List.replicate (c * s.k) 255 ++ Q), s.k, s.ar - c, s.pt, false, s.wr + c⟩) (A := (a : Int) * (s.k : Int)) (m := headB g) (p := P) (q := List.replicate (headB g).length 255) (r := List.replicate (c * s.k - 12) 255 ++ Q) rfl (by rw [hP, Int.natCast_mul]) (by simp) (by show P ++ (List.replicate (c * s.k) 255 ++ Q) = _; rw [hB, rep_split (Nat.le_of_lt h12)]) (by show 0 < s.ar - (c : Int); omega) (by rw [hB]; show s.ar - (c : Int) ≤ ((12 : Nat) : Int); omega)
    rw [hB] at e2
    generalize hn : (s.ar - (c : Int)).toNat - 1 = n at e2
    have hn12 : n < 12 := by omega
    refine ⟨List.zipWith (· &&& ·) ((List.replicate 12 255).take n) ((headB g).take n) ++ ((List.replicate 12 255).drop n ++ List.replicate (c * s.k - 12) 255), s.wr + c + (s.ar - c - 1), ?_, ?_, .inr (.inr ?_)⟩
    · unfold FlS.format
      rw [e1, if_pos rfl]
      refine e2.trans (Prod.ext rfl (FlS.ext ?_ rfl rfl rfl rfl rfl))
      simp only [List.append_assoc]
    · simp only [List.length_append, List.length_zipWith, List.length_take, List.length_drop, List.length_replicate, hB]; omega
    · rw [← List.append_assoc, List.getElem?_append_right (by simp only [List.length_append, List.length_zipWith, List.length_take, List.length_drop, List.length_replicate, hB]; omega)]
      simp only [List.length_append, List.length_zipWith, List.length_take, List.length_drop, List.length_replicate, hB]
      rw [List.getElem?_replicate, if_pos (by omega)]
theorem numB_head (g : Int) (hg : 0 ≤ g ∧ g ≤ 4294967295) (r : List UInt8) : numB (((headB g ++ r).drop 4).take 4) = g.toNat := by
  have e : ((headB g ++ r).drop 4).take 4 = leB 4 g := by
    unfold headB headX
    simp only [List.cons_append, List.nil_append, List.append_assoc, List.drop_succ_cons, List.drop_zero]
    exact List.take_left' (leB_len 4 g)
  have e2 : g = ((g.toNat : Nat) : Int) := by omega
  rw [e, e2, numB_leB]
  exact Nat.mod_eq_of_lt (by omega)
/-- the head of a bank that is ready -/
def headR (g : Int) : List UInt8 := headB g ++ [254, 255, 255, 255]
theorem headR_len (g : Int) : (headR g).length = 16 := by simp [headR, headB_len]
theorem head_is (hd : s.dd = false) (hl : s.l = P ++ (headR g ++ Q)) (hP : P.length = a * s.k) (hg : 0 ≤ g ∧ g ≤ 4294967295) : s.head a = (g, true, 0) := by
  have e : (s.l.drop (a * s.k)).take 16 = headR g := by
    rw [hl, ← hP, List.drop_left]
    exact List.take_left' (headR_len g)
  have e12 : (headR g).take 12 = headB g := List.take_left' (headB_len g)
  have en : numB (((headR g).drop 4).take 4) = g.toNat := numB_head g hg _
  have eg : (headR g).getD 12 0 = 254 := by
    unfold headR
    rw [List.getD_eq_getElem?_getD, List.getElem?_append_right (by rw [headB_len]; exact Nat.le_refl _), headB_len]; rfl
  have e2 : ((g.toNat : Nat) : Int) = g := by omega
  unfold FlS.head
  rw [hd, e, e12, en, e2, eg, if_neg (by simp), if_pos rfl]
  rfl
theorem head_not (hd : s.dd = false) (hl : s.l = P ++ (X ++ Q)) (hP : P.length = a * s.k) (hX : 16 ≤ X.length) (h : X.head? = some 255 ∨ X[12]? = some 255) : (s.head a).2.1 = false ∧ (s.head a).2.2 = 0 := by
  have e : (s.l.drop (a * s.k)).take 16 = X.take 16 := by
    rw [hl, ← hP, List.drop_left, List.take_append_of_le_length hX]
  unfold FlS.head
  rw [hd, e, if_neg (by simp)]
  rcases h with h | h
  · rw [if_neg]
    · exact ⟨rfl, rfl⟩
    · intro q
      have := congrArg List.head? q
      cases X with
      | nil => cases h
      | cons b X =>
        rw [List.head?_cons] at h
        obtain rfl := Option.some.inj h
        rw [List.take_succ_cons, List.take_succ_cons, List.head?_cons] at this
        exact absurd (Option.some.inj this) (by show ¬ ((255 : UInt8) = 76); decide)
  · split
    · refine ⟨?_, rfl⟩
      show decide ((((X.take 16).getD 12 0).toNat : Int) = 254) = false
      rw [List.getD_eq_getElem?_getD, List.getElem?_take_of_lt (by decide), h]
      rfl
    · exact ⟨rfl, rfl⟩
theorem ready_all (hd : s.dd = false) (hl : s.l = P ++ (headB g ++ (List.replicate m 255 ++ Q))) (hP : P.length = a * s.k) (hm : 4 ≤ m) (h : s.ar ≤ 0 ∨ 1 < s.ar) :
    s.prog ((a : Int) * s.k + 12) [254] = (0, ⟨P ++ (headR g ++ (List.replicate (m - 4) 255 ++ Q)), s.k, if 0 < s.ar then s.ar - 1 else s.ar, s.pt, false, s.wr + 1⟩) := by
  have hB := headB_len g
  rw [prog_all (m := [254]) (p := P ++ headB g) (q := [255]) (r := [255, 255, 255] ++ (List.replicate (m - 4) 255 ++ Q)) hd (by simp only [List.length_append, hP, hB, Int.natCast_add, Int.natCast_mul]; rfl) rfl (by rw [hl, rep_split hm]; simp [List.replicate_succ]) (by simp only [List.length_singleton]; omega)]
  refine Prod.ext rfl (FlS.ext ?_ rfl rfl rfl rfl rfl)
  show P ++ headB g ++ ([255 &&& 254] ++ ([255, 255, 255] ++ (List.replicate (m - 4) 255 ++ Q))) = _
  rw [ff_and]
  simp [headR]
theorem ready_cut (hd : s.dd = false) (hl : s.l = P ++ (headB g ++ (List.replicate m 255 ++ Q))) (hP : P.length = a * s.k) (hm : 4 ≤ m) (h : s.ar = 1) :
    s.prog ((a : Int) * s.k + 12) [254] = (6, ⟨s.l, s.k, 0, s.pt, true, s.wr⟩) := by
  have hB := headB_len g
  rw [prog_cut (m := [254]) (p := P ++ headB g) (q := [255]) (r := [255, 255, 255] ++ (List.replicate (m - 4) 255 ++ Q)) hd (by simp only [List.length_append, hP, hB, Int.natCast_add, Int.natCast_mul]; rfl) rfl (by rw [hl, rep_split hm]; simp [List.replicate_succ]) (by omega) (by simp only [List.length_singleton]; omega)]
  rw [h]
  refine Prod.ext rfl (FlS.ext ?_ rfl rfl rfl rfl ?_)
  · show P ++ headB g ++ ([] ++ ([255] ++ ([255, 255, 255] ++ (List.replicate (m - 4) 255 ++ Q)))) = _
    rw [hl, rep_split hm]
    simp [List.replicate_succ]
  · show s.wr + (1 - 1) = s.wr; omega
/-- a flash that is new: the bank on it, formatted and ready -/
theorem format_new {n : Nat} (hd : s.dd = false) (hk : 0 < s.k) (har : s.ar = 0) (hl : s.l = List.replicate n 255) (hn : (a + c) * s.k ≤ n) (h12 : 16 ≤ c * s.k) :
    ∃ s1 s2 : FlS, s.format a c g = (0, s1) ∧ s1.prog ((a : Int) * s1.k + 12) [254] = (0, s2) ∧ s1.k = s.k ∧ s2.k = s.k ∧ s2.ar = 0 ∧ BI s2 a c (List.replicate (a * s.k) 255) (headR g) [] (c * s.k - 16) (List.replicate (n - (a + c) * s.k) 255) := by
  rw [Nat.add_mul] at hn
  have hsp : List.replicate n (255 : UInt8) = List.replicate (a * s.k) 255 ++ (List.replicate (c * s.k) 255 ++ List.replicate (n - (a + c) * s.k) 255) := by
    rw [List.replicate_append_replicate, List.replicate_append_replicate]
    congr 1
    rw [Nat.add_mul]; omega
  have e1 := format_all (g := g) hd hk (hl.trans hsp) (List.length_replicate ..) (List.length_replicate ..) (by omega) (by omega)
  rw [if_neg (by omega)] at e1
  have e2 := ready_all (s := ⟨List.replicate (a * s.k) 255 ++ (headB g ++ (List.replicate (c * s.k - 12) 255 ++ List.replicate (n - (a + c) * s.k) 255)), s.k, s.ar, s.pt, false, s.wr + (c + 12)⟩) (a := a) (g := g) rfl rfl (List.length_replicate ..) (by omega) (by show s.ar ≤ 0 ∨ _; omega)
  refine ⟨_, _, e1, e2, rfl, rfl, ?_, ⟨?_, List.length_replicate .., headR_len g, ?_, trivial, rfl⟩⟩
  · show (if 0 < s.ar then s.ar - 1 else s.ar) = 0
    rw [har]; rfl
  · show List.replicate (a * s.k) 255 ++ (headR g ++ (List.replicate (c * s.k - 12 - 4) 255 ++ List.replicate (n - (a + c) * s.k) 255)) = _
    rw [Nat.sub_sub]; rfl
  · show 16 + 0 + (c * s.k - 16) = c * s.k; omega
end
end Go.Proofs.YtddocchgikaahaaDoor
