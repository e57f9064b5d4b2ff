/- What is added to a bank in the midst of a flash: the plain law of BankHolds. Conditions: the premises of each law. -/
import Derived.Test.YtddocchgikaahaaDoorGr
namespace Go.Proofs.YtddocchgikaahaaDoor
set_option linter.unusedVariables false
set_option linter.unusedSimpArgs false
/-- a bank on some sectors of a flash of six, behind what was added: the records and the room that is left -/
def HB (n : Nat) (s : FlS) (w : List RK) (m : Nat) : Prop := ∃ l, BI s 1 n (List.replicate 128 255) (headR 7) l m (List.replicate (768 - (1 + n) * 128) 255) ∧ s.k = 128 ∧ s.ar = 0 ∧ l.map rkOf = w
theorem hb_new (n : Nat) (h : 1 ≤ n ∧ n ≤ 4) : ∃ s1 s2 : FlS, (FlS.new 6 128).format 1 n 7 = (0, s1) ∧ s1.prog (((1 : Nat) : Int) * (s1.k : Int) + 12) [254] = (0, s2) ∧ s1.k = 128 ∧ s2.k = 128 ∧ HB n s2 [] (n * 128 - 16) := by
  obtain ⟨s1, s2, h1, h2, h3, h4, h5, h6⟩ := new_begins 6 128 1 n 7 (by decide) (by omega) (by omega)
  exact ⟨s1, s2, h1, h2, h3, h4, [], h6, h4, h5, rfl⟩
theorem hb_add {n : Nat} {s : FlS} {w : List RK} {m : Nat} (h : HB n s w m) (key val : List UInt8) :
    ((key.length < 1 ∨ 255 < key.length ∨ 65536 < val.length) ∧ s.add 1 n key val = (1, s)) ∨
    ((1 ≤ key.length ∧ key.length ≤ 255) ∧ val.length ≤ 65536 ∧ m < 12 + key.length + val.length ∧ s.add 1 n key val = (5, s)) ∨
    ((1 ≤ key.length ∧ key.length ≤ 255) ∧ val.length ≤ 65536 ∧ 12 + key.length + val.length ≤ m ∧ ∃ s', s.add 1 n key val = (0, s') ∧ HB n s' (w ++ [⟨key, val, true⟩]) (m - (12 + key.length + val.length))) := by
  obtain ⟨l, h1, h2, h3, h4⟩ := h
  rcases h1.add_cases h3 key val with c | c | ⟨c1, c2, c3, s', c4, c5, c6, c7⟩
  · exact .inl c
  · exact .inr (.inl c)
  · refine .inr (.inr ⟨c1, c2, c3, s', c4, _, c5, by rw [c6, h2], c7, ?_⟩)
    rw [List.map_append, h4]; rfl
theorem hb_end {n : Nat} (hn : 1 ≤ n ∧ n ≤ 4) {s : FlS} {w : List RK} {m : Nat} (h : HB n s w m) :
    s.dd = false ∧ (∃ l, s.scan 1 n = (l, (s.scan 1 n).2.1, true) ∧ l.map rkOf = w) ∧ s.head 1 = (7, true, 0) ∧ s.l.length = 768 ∧ (∀ i, i < 768 → (i < 128 ∨ 128 * (n + 1) ≤ i) → s.l.getD i 0 = 255) ∧ (s.l.drop 140).take 1 = [254] := by
  obtain ⟨l, h1, h2, h3, h4⟩ := h
  have hlen := h1.n
  have hH := h1.H
  have hP := h1.P
  have him := h1.img
  rw [h2] at hlen
  refine ⟨h1.dd, ⟨l, by rw [h1.scan], h4⟩, head_is (P := List.replicate 128 255) h1.dd him (by rw [h2]; rfl) (by decide), ?_, fun i hi hc => ?_, ?_⟩
  · rw [him]; simp only [List.length_append, List.length_replicate, hH]; omega
  · rw [List.getD_eq_getElem?_getD, him]
    rcases hc with hc | hc
    · rw [List.getElem?_append_left (by simpa using hc), List.getElem?_replicate, if_pos hc]; rfl
    · rw [List.getElem?_append_right (by simp; omega), List.getElem?_append_right (by simp [hH]; omega), List.getElem?_append_right (by simp [hH]; omega), List.getElem?_append_right (by simp [hH]; omega), List.getElem?_replicate, if_pos (by simp [hH]; omega)]; rfl
  · rw [him, show 140 = (List.replicate 128 (255 : UInt8)).length + 12 from rfl, ← List.drop_drop, List.drop_left]
    rfl
end Go.Proofs.YtddocchgikaahaaDoor
