/- Abstract values: rows, and what becomes of them; operations that read or write memory. Conditions: what 'TIok' says of the types. -/
import Derived.Test.YtjfenbkhgamidaaAv2
namespace Go.Proofs.Ytjfenbkhgamidaa
set_option linter.unusedVariables false
def updH : List Ent → List (Nat × Ent) → List Ent
  | H, [] => H
  | H, (r, e) :: us => updH (setL H r e) us
structure Out (E E' : Env) (w w' : World) (H : List Ent) (us : List (Nat × Ent)) : Prop where
  ext : Ext E E' w w'
  hr : HR E' w' (updH H us)
  os : w'.os = w.os
  tape : w'.tape = w.tape
  output : w'.output = w.output
  size : w.heap.size ≤ w'.heap.size
  zone : ∀ z b, E'.zone z b → E.zone z b ∨ w.heap.size ≤ b
  grow : ∀ (k : Nat) cur T fz, w.heap[k]? = some (.cells cur T fz) → ∃ cur' T' fz', w'.heap[k]? = some (.cells cur' T' fz') ∧ cur.size ≤ cur'.size
  block : ∀ k, k < w.heap.size → (∀ (r : Nat) (e : Ent), H[r]? = some e → Liv E r e → E.ρ r = k → r ∉ us.map (·.1)) → w'.heap[k]? = w.heap[k]?
  rows : ∀ (r : Nat) (e : Ent), (updH H us)[r]? = some e → Liv E' r e → w.heap.size ≤ E'.ρ r ∨ (E'.ρ r = E.ρ r ∧ ∃ e0 : Ent, H[r]? = some e0 ∧ Liv E r e0)
theorem Out.same {E : Env} {w : World} {H : List Ent} (h : HR E w H) : Out E E w w H [] :=
  ⟨Ext.refl _ _, h, rfl, rfl, rfl, Nat.le_refl _, fun _ _ h => .inl h, fun _ cur T fz h => ⟨cur, T, fz, h, Nat.le_refl _⟩, fun _ _ _ => rfl, fun r e hr hl => .inr ⟨rfl, e, hr, hl⟩⟩
theorem HR.drew {E : Env} {w : World} {H : List Ent} (h : HR E w H) : HR E w.drew H := by
  have X : Ext E E w w.drew := ⟨fun _ => Nat.le_refl _, fun _ _ => rfl, fun _ _ => Iff.rfl, fun _ _ h => h, fun _ _ _ => rfl, fun _ _ cur T fz h => ⟨cur, T, fz, h, Nat.le_refl _⟩⟩
  exact ⟨h.ver, fun r e hr hl => (h.ent r e hr hl).ext X rfl, h.abs, h.inj, h.zlt, h.zrow, h.top⟩
theorem Fr.out {w0 : World} {keep : Nat → Prop} {E E' : Env} {w w' : World} {H : List Ent} {us : List (Nat × Ent)} (h : Fr w0 keep E H w) (o : Out E E' w w' H us) : Fr w0 keep E' (updH H us) w' := by
  refine ⟨o.os.trans h.os, o.tape.trans h.tape, o.output.trans h.output, Nat.le_trans h.size o.size, fun k hk hkeep => ?_, fun k cur T fz hk => ?_, fun r e hr hl hlt => ?_⟩
  · rw [o.block k (Nat.lt_of_lt_of_le hk h.size) (fun r e hr hl he _ => h.rows r e hr hl (by omega) (by rw [he]; exact hkeep))]
    exact h.block k hk hkeep
  · obtain ⟨c1, T1, f1, h1, h2⟩ := h.grow k cur T fz hk
    obtain ⟨c2, T2, f2, h3, h4⟩ := o.grow k c1 T1 f1 h1
    exact ⟨c2, T2, f2, h3, Nat.le_trans h2 h4⟩
  · rcases o.rows r e hr hl with h1 | ⟨h1, e0, h2, h3⟩
    · have := h.size; omega
    · rw [h1] at hlt ⊢; exact h.rows r e0 h2 h3 hlt
def Env.set (E : Env) (r b v : Nat) : Env := { E with ρ := fun k => if k = r then b else E.ρ k, ver := fun k => if k = r then v else E.ver k, abs := fun k => if k = r then False else E.abs k }
theorem Env.set_abs (E : Env) (r b v : Nat) : ¬ (E.set r b v).abs r := by simp [Env.set]
theorem Env.set_abs_ne (E : Env) {r k : Nat} (b v : Nat) (h : k ≠ r) : (E.set r b v).abs k = E.abs k := by simp [Env.set, h]
theorem Env.set_ρ (E : Env) (r b v : Nat) : (E.set r b v).ρ r = b := by simp [Env.set]
theorem Env.set_ver (E : Env) (r b v : Nat) : (E.set r b v).ver r = v := by simp [Env.set]
theorem Env.set_ρ_ne (E : Env) {r k : Nat} (b v : Nat) (h : k ≠ r) : (E.set r b v).ρ k = E.ρ k := by simp [Env.set, h]
theorem Env.set_ver_ne (E : Env) {r k : Nat} (b v : Nat) (h : k ≠ r) : (E.set r b v).ver k = E.ver k := by simp [Env.set, h]
theorem Env.set_same (E : Env) {r b v : Nat} (hb : b = E.ρ r) (hv : v = E.ver r) (ha : ¬ E.abs r) : E.set r b v = E := by
  cases E with
  | mk ρ ver zone abs =>
    simp only [Env.set, Env.mk.injEq, true_and]
    refine ⟨funext fun k => ?_, funext fun k => ?_, funext fun k => ?_⟩ <;> split <;> simp_all
/-- one row becomes another one: in its block, or in a block that is new -/
theorem Out.one {E : Env} {w w' : World} {H : List Ent} {r0 b v' : Nat} {e0 : Ent} {bd' : Bd} (hr : HR E w H) (h0 : H[r0]? = some e0) (hv : v' = e0.ver ∧ b = E.ρ r0 ∧ ¬ E.abs r0 ∨ e0.ver < v')
    (hb : b = E.ρ r0 ∧ Liv E r0 e0 ∨ w.heap.size ≤ b) (os : w'.os = w.os) (tape : w'.tape = w.tape) (output : w'.output = w.output) (size : w.heap.size ≤ w'.heap.size)
    (blk : ∀ k, k < w.heap.size → k ≠ b → w'.heap[k]? = w.heap[k]?)
    (sz : ∀ cur T fz, w.heap[b]? = some (.cells cur T fz) → ∃ cur' T' fz', w'.heap[b]? = some (.cells cur' T' fz') ∧ cur.size ≤ cur'.size)
    (ent : Ext E (E.set r0 b v') w w' → EntRep (E.set r0 b v') w' b bd') : Out E (E.set r0 b v') w w' H [(r0, ⟨v', bd'⟩)] := by
  have hver := hr.ver r0 e0 h0
  have hlt0 : r0 < H.length := (List.getElem?_eq_some_iff.1 h0).1
  have hnz : ∀ z c, E.zone z c → c ≠ b := by
    intro z c hz e
    subst e
    rcases hb with ⟨h1, h2⟩ | h1
    · exact hr.zrow r0 e0 h0 h2 z (h1 ▸ hz)
    · have := hr.zlt z c hz; omega
  have X : Ext E (E.set r0 b v') w w' := by
    refine ⟨fun r => ?_, fun r e => ?_, fun r e => ?_, fun z c h => h, fun z c hz => blk c (hr.zlt z c hz) (hnz z c hz), fun r e cur T fz hc => ?_⟩
    · by_cases h : r = r0
      · subst h; rw [Env.set_ver, hver]; rcases hv with h | h <;> omega
      · rw [Env.set_ver_ne E b v' h]; exact Nat.le_refl _
    · by_cases h : r = r0
      · subst h; rw [Env.set_ver] at e; rw [Env.set_ρ]; rcases hv with h | h
        · exact h.2.1
        · omega
      · rw [Env.set_ρ_ne E b v' h]
    · by_cases h : r = r0
      · subst h; rw [Env.set_ver] at e; rcases hv with h | h
        · exact ⟨fun q => absurd q (Env.set_abs E r b v'), fun q => absurd q h.2.2⟩
        · omega
      · rw [Env.set_abs_ne E b v' h]
    · by_cases h : E.ρ r = b
      · rw [h] at hc ⊢; exact sz cur T fz hc
      · have := (Array.getElem?_eq_some_iff.1 hc).1
        exact ⟨cur, T, fz, by rw [blk _ this h]; exact hc, Nat.le_refl _⟩
  have hget : ∀ (r : Nat) (e : Ent), (updH H [(r0, ⟨v', bd'⟩)])[r]? = some e → r = r0 ∧ e = ⟨v', bd'⟩ ∨ r ≠ r0 ∧ H[r]? = some e := by
    intro r e h
    simp only [updH, setL_eq] at h
    by_cases hrr : r = r0
    · subst hrr; rw [List.getElem?_set_self hlt0] at h; exact .inl ⟨rfl, (Option.some.inj h).symm⟩
    · rw [List.getElem?_set_ne (Ne.symm hrr)] at h; exact .inr ⟨hrr, h⟩
  have hne : ∀ (r : Nat) (e : Ent), r ≠ r0 → H[r]? = some e → Liv E r e → E.ρ r ≠ b := by
    intro r e h1 h2 h3 h4
    rcases hb with ⟨h5, h6⟩ | h5
    · exact h1 (hr.inj r r0 e e0 h2 h0 h3 h6 (h4.trans h5))
    · have := hr.lt h2 h3; omega
  have hliv : ∀ (r : Nat) (e : Ent), r ≠ r0 → Liv (E.set r0 b v') r e → Liv E r e := fun r e h1 h2 => ⟨h2.1, fun q => h2.2 (by rw [Env.set_abs_ne E b v' h1]; exact q)⟩
  refine ⟨X, ⟨?_, ?_, ?_, ?_, ?_, ?_, ?_⟩, os, tape, output, size, fun _ _ h => .inl h, fun k cur T fz hk => ?_, ?_, ?_⟩
  · intro r e h
    rcases hget r e h with ⟨rfl, rfl⟩ | ⟨h1, h2⟩
    · rw [Env.set_ver]
    · rw [Env.set_ver_ne E b v' h1]; exact hr.ver r e h2
  · intro r e h hl
    rcases hget r e h with ⟨rfl, rfl⟩ | ⟨h1, h2⟩
    · rw [Env.set_ρ]; exact ent X
    · rw [Env.set_ρ_ne E b v' h1]
      have hl := hliv r e h1 hl
      exact (hr.ent r e h2 hl).ext X (blk _ (hr.lt h2 hl) (hne r e h1 h2 hl))
  · intro r e h ha
    rcases hget r e h with ⟨rfl, rfl⟩ | ⟨h1, h2⟩
    · exact absurd ha (Env.set_abs E r b v')
    · rw [Env.set_abs_ne E b v' h1] at ha; exact hr.abs r e h2 ha
  · intro r r' e e' h h' hl hl' hρ
    rcases hget r e h with ⟨rfl, rfl⟩ | ⟨h1, h2⟩ <;> rcases hget r' e' h' with ⟨rfl, rfl⟩ | ⟨h3, h4⟩
    · rfl
    · rw [Env.set_ρ, Env.set_ρ_ne E b v' h3] at hρ; exact absurd hρ.symm (hne r' e' h3 h4 (hliv r' e' h3 hl'))
    · rw [Env.set_ρ, Env.set_ρ_ne E b v' h1] at hρ; exact absurd hρ (hne r e h1 h2 (hliv r e h1 hl))
    · rw [Env.set_ρ_ne E b v' h1, Env.set_ρ_ne E b v' h3] at hρ; exact hr.inj r r' e e' h2 h4 (hliv r e h1 hl) (hliv r' e' h3 hl') hρ
  · exact fun z c h => Nat.lt_of_lt_of_le (hr.zlt z c h) size
  · intro r e h hl z hz
    rcases hget r e h with ⟨rfl, rfl⟩ | ⟨h1, h2⟩
    · rw [Env.set_ρ] at hz; exact hnz z b hz rfl
    · rw [Env.set_ρ_ne E b v' h1] at hz; exact hr.zrow r e h2 (hliv r e h1 hl) z hz
  · intro r h
    simp only [updH, setL_eq, List.length_set] at h
    have hne : r ≠ r0 := by omega
    rw [Env.set_ver_ne E b v' hne, Env.set_abs_ne E b v' hne]
    exact hr.top r h
  · by_cases h : k = b
    · subst h; exact sz cur T fz hk
    · exact ⟨cur, T, fz, by rw [blk k (Array.getElem?_eq_some_iff.1 hk).1 h]; exact hk, Nat.le_refl _⟩
  · intro k hk h
    by_cases hkb : k = b
    · exfalso
      rcases hb with ⟨h1, h2⟩ | h1
      · exact h r0 e0 h0 h2 (by omega) (by simp)
      · omega
    · exact blk k hk hkb
  · intro r e h hl
    rcases hget r e h with ⟨rfl, rfl⟩ | ⟨h1, h2⟩
    · rw [Env.set_ρ]
      rcases hb with ⟨h1, h2⟩ | h1
      · exact .inr ⟨h1, e0, h0, h2⟩
      · exact .inl h1
    · exact .inr ⟨Env.set_ρ_ne E b v' h1, e, h2, hliv r e h1 hl⟩
end Go.Proofs.Ytjfenbkhgamidaa
