/- What an Add makes of a bank, wherever the power goes: the plain law of BankFalls. Conditions: the premises of each law. -/
import Derived.Test.YtddocchgikaahaaDoorGr
namespace Go.Proofs.YtddocchgikaahaaDoor
set_option linter.unusedVariables false
set_option linter.unusedSimpArgs false
theorem falls_law {s : FlS} {n : Nat} (h : BG s n) (key val : List UInt8) {N : Int} (hN : 1 ≤ N) :
    ∃ l s1, s.scan 0 8 = (l, (s.scan 0 8).2.1, true) ∧ s.dd = false ∧ s.arm N 0 = (0, s1) ∧
     ((∃ e, (e = 1 ∨ e = 5) ∧ s1.add 0 8 key val = (e, s1) ∧ s1.on = (12, s1) ∧ s1.dd = false ∧ s1.scan 0 8 = (l, (s1.scan 0 8).2.1, true)) ∨
      (∃ s2 l2, s1.add 0 8 key val = (0, s2) ∧ s2.on = (12, s2) ∧ s2.dd = false ∧ s2.scan 0 8 = (l2, (s2.scan 0 8).2.1, true) ∧ l2.map rkOf = l.map rkOf ++ [⟨key, val, true⟩]) ∨
      (∃ s2 s3, s1.add 0 8 key val = (6, s2) ∧ s2.on = (0, s3) ∧ s3.dd = false ∧ (s3.scan 0 8).1 = l)) := by
  obtain ⟨P, H, l, m, Q, h1, hk, har, hln⟩ := h
  obtain ⟨s1, e1, b1, k1, ar1, pt1⟩ := h1.arm (x := N) (y := 0) (by omega) (by decide)
  refine ⟨l, s1, by rw [h1.scan], h1.dd, e1, ?_⟩
  by_cases c1 : key.length < 1 ∨ 255 < key.length ∨ 65536 < val.length
  · exact .inl ⟨1, .inl rfl, add_arg c1, b1.on, b1.dd, by rw [b1.scan]⟩
  by_cases c2 : m < 12 + key.length + val.length
  · exact .inl ⟨5, .inr rfl, b1.add_full (by omega) (by omega) c2, b1.on, b1.dd, by rw [b1.scan]⟩
  right
  have hd : OkR ⟨key, val, true, 16 + (encL l).length⟩ := ⟨by show 1 ≤ key.length ∧ key.length ≤ 255; omega, by show val.length ≤ 65536; omega⟩
  have hm : lenR ⟨key, val, true, 16 + (encL l).length⟩ ≤ m := by show 12 + key.length + val.length ≤ m; omega
  by_cases c3 : (lenR ⟨key, val, true, 16 + (encL l).length⟩ + 1 : Int) < s1.ar
  · obtain ⟨s2, f1, f2, f3, f4⟩ := b1.add_all hd rfl rfl hm (.inr c3)
    refine .inl ⟨s2, _, f1, f2.on, f2.dd, by rw [f2.scan], by simp [rkOf]⟩
  · obtain ⟨s2, f1, f2, f3, f4⟩ := b1.add_cut hd rfl hm (by omega) (by omega)
    have g5 : s2.on = (0, s2.on.2) := by unfold FlS.on; rw [if_pos f2]
    refine .inr ⟨s2, _, f1, g5, ?_, f4⟩
    unfold FlS.on; rw [if_pos f2]
end Go.Proofs.YtddocchgikaahaaDoor
