/- What a Format makes of a bank, wherever the power goes: the plain law of BankHeads. Conditions: the premises of each law. -/
import Derived.Test.YtddocchgikaahaaDoorBp6
namespace Go.Proofs.YtddocchgikaahaaDoor
set_option linter.unusedVariables false
set_option linter.unusedSimpArgs false
def DarkOk (s s3 : FlS) : Prop := s3.dd = true ∧ s3.on.1 = 0 ∧ s3.on.2.dd = false ∧ (s3.on.2.head 0).2.2 = 0 ∧ ((s3.on.2.head 0).2.1 = false ∨ s3.on.2.l.take 13 = s.l.take 13)
theorem dark_ok {s s3 : FlS} {Y Q P : List UInt8} (hP : P.length = 0 * s3.k) (hd : s3.dd = true) (hl : s3.l = P ++ (Y ++ Q)) (hY : 16 ≤ Y.length) (h : s3.l = s.l ∨ Y.head? = some 255 ∨ Y[12]? = some 255) (hz : ∀ X : FlS, X.l = s.l → X.dd = false → (X.head 0).2.2 = 0) : DarkOk s s3 := by
  have e : s3.on = (0, ⟨s3.l, s3.k, 0, s3.pt, false, s3.wr⟩) := by unfold FlS.on; rw [if_pos hd]
  refine ⟨hd, by rw [e], by rw [e], ?_⟩
  rcases h with h | h
  · refine ⟨hz _ (by rw [e]; exact h) (by rw [e]), .inr ?_⟩
    rw [e]; simp only; rw [h]
  · have := head_not (s := ⟨s3.l, s3.k, 0, s3.pt, false, s3.wr⟩) (a := 0) rfl hl hP hY h
    rw [e]
    exact ⟨this.2, .inl this.1⟩
theorem head_e {X : FlS} (h : X.dd = false) : (X.head 0).2.2 = 0 := by
  unfold FlS.head
  rw [h, if_neg (by simp)]
  split <;> rfl
theorem heads_law {s : FlS} {n : Nat} (h : BG s n) {N part g : Int} (hN : 0 ≤ N) (hp : 0 ≤ part) (hg : 0 ≤ g ∧ g ≤ 4294967295) :
    ∃ s1, s.arm N part = (0, s1) ∧
     ((∃ s3, s1.format 0 8 g = (6, s3) ∧ DarkOk s s3) ∨
      (∃ s2 s3, s1.format 0 8 g = (0, s2) ∧ s2.prog ((0 : Nat) * (s2.k : Int) + 12) [254] = (6, s3) ∧ DarkOk s s3) ∨
      (∃ s2 s3, s1.format 0 8 g = (0, s2) ∧ s2.prog ((0 : Nat) * (s2.k : Int) + 12) [254] = (0, s3) ∧ s3.dd = false ∧ s3.on = (12, s3) ∧ s3.head 0 = (g, true, 0) ∧ s3.scan 0 8 = ([], 16, true))) := by
  obtain ⟨P, H, l, m, Q, h1, hk, _, _⟩ := h
  obtain ⟨s1, e1, b1, k1, ar1, pt1⟩ := h1.arm hN hp
  have hk1 : s1.k = 256 := by rw [k1, hk]
  have hn := b1.n
  have hH := b1.H
  have hPl := b1.P
  have hX : (H ++ (encL l ++ List.replicate m 255)).length = 8 * s1.k := by
    simp only [List.length_append, List.length_replicate, hH]; omega
  have him : s1.l = P ++ ((H ++ (encL l ++ List.replicate m 255)) ++ Q) := by rw [b1.img]; simp
  have hsl : s1.l = s.l := by rw [b1.img, h1.img]
  refine ⟨s1, e1, ?_⟩
  by_cases hc : 0 < s1.ar ∧ s1.ar ≤ (8 : Nat) + 12
  · obtain ⟨Y, w, f1, f2, f3⟩ := format_cut (g := g) b1.dd (by omega) him hPl hX (by omega) hc.1 hc.2
    refine .inl ⟨_, f1, dark_ok (P := P) (Y := Y) (Q := Q) hPl rfl rfl (by omega) ?_ (fun X _ hX => head_e hX)⟩
    rcases f3 with f3 | f3
    · left
      show P ++ (Y ++ Q) = s.l
      rw [f3, ← him, hsl]
    · exact .inr f3
  have f1 := format_all (g := g) b1.dd (by omega) him hPl hX (by omega) (by omega)
  right
  have hr : 4 ≤ 8 * s1.k - 12 := by omega
  by_cases hc2 : s1.ar = 21
  · have r1 := ready_cut (s := ⟨P ++ (headB g ++ (List.replicate (8 * s1.k - 12) 255 ++ Q)), s1.k, if 0 < s1.ar then s1.ar - (((8 : Nat) : Int) + 12) else s1.ar, s1.pt, false, s1.wr + (((8 : Nat) : Int) + 12)⟩) (a := 0) (g := g) rfl rfl hPl hr (by show (if 0 < s1.ar then s1.ar - (((8 : Nat) : Int) + 12) else s1.ar) = 1; rw [if_pos (by omega)]; omega)
    refine .inl ⟨_, _, f1, r1, dark_ok (P := P) (Y := headB g ++ List.replicate (8 * s1.k - 12) 255) (Q := Q) hPl rfl (by show P ++ (headB g ++ (List.replicate (8 * s1.k - 12) 255 ++ Q)) = _; simp) (by simp only [List.length_append, headB_len, List.length_replicate]; omega) (.inr (.inr ?_)) (fun X _ hX => head_e hX)⟩
    rw [List.getElem?_append_right (by rw [headB_len]; exact Nat.le_refl _), headB_len, List.getElem?_replicate, if_pos (by omega)]
  · have r1 := ready_all (s := ⟨P ++ (headB g ++ (List.replicate (8 * s1.k - 12) 255 ++ Q)), s1.k, if 0 < s1.ar then s1.ar - (((8 : Nat) : Int) + 12) else s1.ar, s1.pt, false, s1.wr + (((8 : Nat) : Int) + 12)⟩) (a := 0) (g := g) rfl rfl hPl hr (by show (if 0 < s1.ar then s1.ar - (((8 : Nat) : Int) + 12) else s1.ar) ≤ 0 ∨ 1 < (if 0 < s1.ar then s1.ar - (((8 : Nat) : Int) + 12) else s1.ar); split <;> omega)
    refine .inr ⟨_, _, f1, r1, rfl, ?_, head_is (P := P) (Q := List.replicate (8 * s1.k - 12 - 4) 255 ++ Q) rfl rfl hPl hg, ?_⟩
    · unfold FlS.on; rw [if_neg (by simp)]
    · have := scan_of (l := []) (a := 0) (c := 8) (P := P) (H := headR g) (y := List.replicate (8 * s1.k - 12 - 4) 255) (Q := Q) (s := ⟨P ++ (headR g ++ (List.replicate (8 * s1.k - 12 - 4) 255 ++ Q)), s1.k, if 0 < (if 0 < s1.ar then s1.ar - (((8 : Nat) : Int) + 12) else s1.ar) then (if 0 < s1.ar then s1.ar - (((8 : Nat) : Int) + 12) else s1.ar) - 1 else (if 0 < s1.ar then s1.ar - (((8 : Nat) : Int) + 12) else s1.ar), s1.pt, false, s1.wr + (((8 : Nat) : Int) + 12) + 1⟩) rfl hPl (headR_len g) (by rw [List.length_replicate]; show 16 + 0 + (8 * s1.k - 12 - 4) = 8 * s1.k; omega) trivial (fun b hb => .inl (ff_head hb))
      rw [this, ff_nhead]
      rfl
end Go.Proofs.YtddocchgikaahaaDoor
