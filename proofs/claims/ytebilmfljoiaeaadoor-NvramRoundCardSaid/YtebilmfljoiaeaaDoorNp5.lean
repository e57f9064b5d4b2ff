/- Sets of three keys, one behind the other: the plain law. Conditions: the premises of each law. -/
import Derived.Test.YtebilmfljoiaeaaDoorNp4
namespace Go.Proofs.YtebilmfljoiaeaaDoor
set_option linter.unusedVariables false
set_option linter.unusedSimpArgs false
/-- the keys and the values of the rounds -/
def rKey (k : Nat) : List UInt8 := [107, UInt8.ofNat k]
def rVal (i : Nat) : List UInt8 := [UInt8.ofNat i, UInt8.ofNat i]
def rndM (sd : Nat) : Nat → List RK
  | 0 => []
  | i + 1 => setM (rndM sd i) (rKey ((i + sd) % 3)) (rVal i)
def rndL (sd : Nat) : Nat → Nat → Nat
  | 0, _ => 0
  | i + 1, k => if k = (i + sd) % 3 then i + 1 else rndL sd i k
theorem rKey_inj {a b : Nat} (ha : a < 3) (hb : b < 3) (h : rKey a = rKey b) : a = b := by
  obtain rfl | rfl | rfl : a = 0 ∨ a = 1 ∨ a = 2 := by omega
  all_goals (obtain rfl | rfl | rfl : b = 0 ∨ b = 1 ∨ b = 2 := by omega) <;> first | rfl | exact absurd h (by decide)
theorem rnd_sub (sd : Nat) : ∀ (i : Nat), ∀ r ∈ rndM sd i, (∃ k, k < 3 ∧ r.key = rKey k) ∧ r.val.length = 2
  | 0, r, h => by cases h
  | i + 1, r, h => by
    rw [rndM, setM] at h
    rcases List.mem_append.1 h with h | h
    · exact rnd_sub sd i r (List.mem_filter.1 h).1
    · rw [List.mem_singleton] at h
      subst h
      exact ⟨⟨(i + sd) % 3, by omega, rfl⟩, rfl⟩
theorem rnd_nod (sd : Nat) : ∀ i : Nat, ((rndM sd i).map fun r => r.key).Nodup
  | 0 => List.nodup_nil
  | i + 1 => nodK_put (rnd_nod sd i)
theorem nodup_le {α : Type} [DecidableEq α] : ∀ (l m : List α), l.Nodup → (∀ x ∈ l, x ∈ m) → l.length ≤ m.length
  | [], m, _, _ => Nat.zero_le _
  | x :: l, m, hN, h => by
    rw [List.nodup_cons] at hN
    have hx := h x (List.mem_cons_self ..)
    have h1 := nodup_le l (m.erase x) hN.2 fun y hy => by
      have hyx : y ≠ x := fun q => hN.1 (q ▸ hy)
      exact (List.mem_erase_of_ne hyx).2 (h y (List.mem_cons_of_mem _ hy))
    rw [List.length_erase_of_mem hx] at h1
    have : 0 < m.length := List.length_pos_of_mem hx
    simp only [List.length_cons]; omega
theorem used16 : ∀ (M : List RK), (∀ r ∈ M, r.key.length = 2 ∧ r.val.length = 2) → usedK M = 16 * M.length
  | [], _ => rfl
  | r :: M, h => by
    have h1 := h r (List.mem_cons_self ..)
    have h2 := used16 M fun x hx => h x (List.mem_cons_of_mem _ hx)
    simp only [usedK, List.length_cons]; omega
theorem rnd_used (sd i : Nat) : usedK (rndM sd i) ≤ 48 := by
  have h1 : ∀ r ∈ rndM sd i, r.key.length = 2 ∧ r.val.length = 2 := fun r hr => by
    obtain ⟨⟨k, _, hk⟩, hv⟩ := rnd_sub sd i r hr
    exact ⟨by rw [hk]; rfl, hv⟩
  rw [used16 _ h1]
  have h2 := nodup_le ((rndM sd i).map fun r => r.key) [rKey 0, rKey 1, rKey 2] (rnd_nod sd i) fun x hx => by
    obtain ⟨r, hr, rfl⟩ := List.mem_map.1 hx
    obtain ⟨⟨k, hk, he⟩, _⟩ := rnd_sub sd i r hr
    rw [he]
    obtain rfl | rfl | rfl : k = 0 ∨ k = 1 ∨ k = 2 := by omega
    all_goals simp
  rw [List.length_map] at h2
  simp only [List.length_cons, List.length_nil] at h2
  omega
theorem rnd_le (sd : Nat) : ∀ (i k : Nat), rndL sd i k ≤ i
  | 0, k => Nat.le_refl _
  | i + 1, k => by
    have := rnd_le sd i k
    rw [rndL]
    split <;> omega
theorem rnd_in (sd : Nat) : ∀ (i k : Nat), k < 3 → 0 < rndL sd i k → (⟨rKey k, rVal (rndL sd i k - 1), true⟩ : RK) ∈ rndM sd i
  | 0, k, _, h => absurd h (Nat.lt_irrefl 0)
  | i + 1, k, hk, h => by
    rw [rndL] at h ⊢
    rw [rndM, setM]
    by_cases q : k = (i + sd) % 3
    · rw [if_pos q, ← q]
      exact List.mem_append_right _ (List.mem_singleton.2 rfl)
    · rw [if_neg q] at h ⊢
      refine List.mem_append_left _ (List.mem_filter.2 ⟨rnd_in sd i k hk h, ?_⟩)
      simp only [bne_iff_ne, ne_eq]
      exact fun e => q (rKey_inj hk (by omega) e)
theorem rnd_out (sd : Nat) : ∀ (i k : Nat), k < 3 → rndL sd i k = 0 → ∀ r ∈ rndM sd i, r.key ≠ rKey k
  | 0, k, _, _, r, h => by cases h
  | i + 1, k, hk, h, r, hr => by
    rw [rndL] at h
    by_cases q : k = (i + sd) % 3
    · rw [if_pos q] at h; omega
    · rw [if_neg q] at h
      rw [rndM, setM] at hr
      rcases List.mem_append.1 hr with hr | hr
      · exact rnd_out sd i k hk h r (List.mem_filter.1 hr).1
      · rw [List.mem_singleton] at hr
        subst hr
        exact fun e => q (rKey_inj hk (by omega) e.symm)
end Go.Proofs.YtebilmfljoiaeaaDoor
