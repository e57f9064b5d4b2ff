/- The bank that a law begins with, as the plain law tells it. Conditions: the premises of each law. -/
import Derived.Test.YtddocchgikaahaaDoorBp5
import Derived.Test.YtddocchgikaahaaDoorBk15
namespace Go.Proofs.YtddocchgikaahaaDoor
set_option linter.unusedVariables false
set_option linter.unusedSimpArgs false
section
variable {s : FlS} {a c : Nat} {P H : List UInt8} {l : List Rc} {m : Nat} {Q : List UInt8}
theorem BI.add_cases (h : BI s a c P H l m Q) (har : s.ar = 0) (key val : List UInt8) :
    ((key.length < 1 ∨ 255 < key.length ∨ 65536 < val.length) ∧ s.add a c key val = (1, s)) ∨
    ((1 ≤ key.length ∧ key.length ≤ 255) ∧ val.length ≤ 65536 ∧ m < 12 + key.length + val.length ∧ s.add a c key val = (5, s)) ∨
    ((1 ≤ key.length ∧ key.length ≤ 255) ∧ val.length ≤ 65536 ∧ 12 + key.length + val.length ≤ m ∧ ∃ s', s.add a c key val = (0, s') ∧ BI s' a c P H (l ++ [⟨key, val, true, 16 + (encL l).length⟩]) (m - (12 + key.length + val.length)) Q ∧ s'.k = s.k ∧ s'.ar = 0) := by
  by_cases h1 : key.length < 1 ∨ 255 < key.length ∨ 65536 < val.length
  · exact .inl ⟨h1, add_arg h1⟩
  by_cases h2 : m < 12 + key.length + val.length
  · exact .inr (.inl ⟨by omega, by omega, h2, h.add_full (by omega) (by omega) h2⟩)
  refine .inr (.inr ⟨by omega, by omega, by omega, ?_⟩)
  obtain ⟨s', e1, e2, e3, e4⟩ := h.add_all (d := ⟨key, val, true, 16 + (encL l).length⟩) ⟨by show 1 ≤ key.length ∧ key.length ≤ 255; omega, by show val.length ≤ 65536; omega⟩ rfl rfl (by show 12 + key.length + val.length ≤ m; omega) (by omega)
  refine ⟨s', e1, e2, e3, ?_⟩
  rw [e4, har]; rfl
end
/-- a bank of eight sectors of 256 bytes that holds n records -/
def BG (s : FlS) (n : Nat) : Prop := ∃ P H l m Q, BI s 0 8 P H l m Q ∧ s.k = 256 ∧ s.ar = 0 ∧ l.length = n
def bgN (s : FlS) (i : Nat) (o : OpB) : FlS := if i % 2 = 1 then ((s.add 0 8 o.key o.val).2.kill 0 8 (i : Int)).2 else (s.add 0 8 o.key o.val).2
def bgS (s0 : FlS) (l : List OpB) : Nat → FlS
  | 0 => s0
  | i + 1 => bgN (bgS s0 l i) i (l.getD i opB0)
def bgC (s0 : FlS) (l : List OpB) (i : Nat) : Int := ((bgS s0 l i).add 0 8 (l.getD i opB0).key (l.getD i opB0).val).1
def bgE (s0 : FlS) (l : List OpB) (i : Nat) : Prop := ∀ j, j < i → bgC s0 l j = 0
theorem new_begins (x y a c : Nat) (g : Int) (hy : 0 < y) (hn : (a + c) * y ≤ x * y) (h16 : 16 ≤ c * y) :
    ∃ s1 s2 : FlS, (FlS.new x y).format a c g = (0, s1) ∧ s1.prog ((a : Int) * s1.k + 12) [254] = (0, s2) ∧ s1.k = y ∧ s2.k = y ∧ s2.ar = 0 ∧ BI s2 a c (List.replicate (a * y) 255) (headR g) [] (c * y - 16) (List.replicate (x * y - (a + c) * y) 255) :=
  format_new (s := FlS.new x y) (n := x * y) rfl hy rfl rfl hn h16
theorem bg_new : ∃ s1 s0 : FlS, (FlS.new 8 256).format 0 8 1 = (0, s1) ∧ s1.prog ((0 : Nat) * (s1.k : Int) + 12) [254] = (0, s0) ∧ BG s0 0 := by
  obtain ⟨s1, s2, h1, h2, h3, h4, h5, h6⟩ := new_begins 8 256 0 8 1 (by decide) (by decide) (by decide)
  exact ⟨s1, s2, h1, h2, _, _, _, _, _, h6, h4, h5, rfl⟩
theorem bg_step {s : FlS} {i : Nat} (h : BG s i) (o : OpB) : (s.add 0 8 o.key o.val = (1, s) ∨ s.add 0 8 o.key o.val = (5, s) ∨ ((s.add 0 8 o.key o.val).1 = 0 ∧ (i % 2 = 1 → ((s.add 0 8 o.key o.val).2.kill 0 8 (i : Int)).1 = 0) ∧ BG (bgN s i o) (i + 1))) := by
  obtain ⟨P, H, l, m, Q, h1, h2, h3, h4⟩ := h
  rcases h1.add_cases h3 o.key o.val with ⟨_, e⟩ | ⟨_, _, _, e⟩ | ⟨_, _, _, s', e, e1, e2, e3⟩
  · exact .inl e
  · exact .inr (.inl e)
  refine .inr (.inr ?_)
  obtain ⟨s'', k1, k2, k3, k4⟩ := BI.kill_all (l1 := l) (l2 := []) e1 (by omega)
  rw [h4] at k1
  unfold bgN
  rw [e]
  simp only
  rw [k1]
  refine ⟨trivial, fun _ => rfl, ?_⟩
  split
  · exact ⟨P, H, _, _, Q, k2, by rw [k3, e2, h2], by rw [k4, e3]; rfl, by simp [h4]⟩
  · exact ⟨P, H, _, _, Q, e1, by rw [e2, h2], e3, by simp [h4]⟩
end Go.Proofs.YtddocchgikaahaaDoor
