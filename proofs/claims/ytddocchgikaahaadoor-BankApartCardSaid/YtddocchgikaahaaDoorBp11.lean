/- What is done in a bank turns no byte behind it: the plain law of BankApart. Conditions: the premises of each law. -/
import Derived.Test.YtddocchgikaahaaDoorGp
import Derived.Test.YtddocchgikaahaaDoorGl
namespace Go.Proofs.YtddocchgikaahaaDoor
set_option linter.unusedVariables false
set_option linter.unusedSimpArgs false
/-- the bytes from e on are the same ones -/
def Kp (e : Nat) (s t : FlS) : Prop := t.l.drop e = s.l.drop e ∧ t.k = s.k
theorem Kp.rfl' {e : Nat} {s : FlS} : Kp e s s := ⟨rfl, rfl⟩
theorem Kp.trans {e : Nat} {s t u : FlS} (h : Kp e s t) (h2 : Kp e t u) : Kp e s u := ⟨h2.1.trans h.1, h2.2.trans h.2⟩
theorem set_keep {c : List UInt8} {k e : Nat} (h : k < e) (b : UInt8) : (c.set k b).drop e = c.drop e := by
  apply List.ext_getElem?
  intro i
  rw [List.getElem?_drop, List.getElem?_drop, List.getElem?_set_ne (by omega)]
theorem prF_keep (e : Nat) : ∀ (m : List UInt8) (k : Nat) (c : List UInt8) (left w : Int), k + m.length ≤ e → (progF m k c left w).2.1.drop e = c.drop e
  | [], k, c, left, w, h => rfl
  | b :: m, k, c, left, w, h => by
    simp only [List.length_cons] at h
    rw [progF]
    split
    · rfl
    · rw [prF_keep e m (k + 1) _ _ _ (by omega), set_keep (by omega)]
theorem fill_keep {e : Nat} (c : List UInt8) (o : Nat) : ∀ n, o + n ≤ e → (fillN c o n).drop e = c.drop e
  | 0, h => rfl
  | n + 1, h => by rw [fillN, set_keep (by omega), fill_keep c o n (by omega)]
theorem prog_keep {e : Nat} (s : FlS) {A : Int} {m : List UInt8} (h : A + m.length ≤ e) : Kp e s (s.prog A m).2 := by
  unfold FlS.prog
  split
  · exact Kp.rfl'
  · split
    · exact ⟨prF_keep e m _ _ _ _ (by omega), rfl⟩
    · exact Kp.rfl'
theorem erase_keep {e : Nat} (s : FlS) {x : Int} (h : (x.toNat + 1) * s.k ≤ e) : Kp e s (s.erase x).2 := by
  rw [Nat.add_mul, Nat.one_mul] at h
  unfold FlS.erase
  split
  · exact Kp.rfl'
  · split
    · refine ⟨?_, rfl⟩
      show (if s.goes = true then fillN s.l (x.toNat * s.k) (min s.pt (s.k : Int)).toNat else fillN s.l (x.toNat * s.k) s.k).drop e = s.l.drop e
      split
      · exact fill_keep _ _ _ (by omega)
      · exact fill_keep _ _ _ (by omega)
    · exact Kp.rfl'
theorem wipe_keep {e : Nat} (s : FlS) (a : Nat) : ∀ c, (a + c) * s.k ≤ e → Kp e s (s.wipe a c).2
  | 0, h => Kp.rfl'
  | c + 1, h => by
    have h1 : (a + c) * s.k ≤ e := Nat.le_trans (Nat.mul_le_mul_right _ (by omega)) h
    have ih := wipe_keep s a c h1
    rw [FlS.wipe]
    split
    · refine ih.trans (erase_keep _ ?_)
      rw [ih.2, show (((a : Int) + (c : Int)).toNat + 1) = a + (c + 1) by omega]
      exact h
    · exact ih
section
variable {W : Int} {n k : Nat} {s : FlS} {a c e : Nat}
theorem format_keep (g : Goes W n k s) (p : Lies n k a c) (he : e = (a + c) * k) (x : Int) : Kp e s (s.format a c x).2 := by
  have hk := g.k
  have hbig := p.big
  have hm : (a + c) * k = a * k + c * k := Nat.add_mul ..
  have h1 := wipe_keep (e := e) s a c (by rw [hk, he]; exact Nat.le_refl _)
  unfold FlS.format
  split
  · refine h1.trans (prog_keep _ ?_)
    rw [headB_len, hk, ← Int.natCast_mul]; omega
  · exact h1
theorem ready_keep (g : Goes W n k s) (p : Lies n k a c) (he : e = (a + c) * k) : Kp e s (s.prog ((a : Int) * s.k + 12) [254]).2 := by
  have hk := g.k
  have hbig := p.big
  have hm : (a + c) * k = a * k + c * k := Nat.add_mul ..
  refine prog_keep _ ?_
  rw [hk, ← Int.natCast_mul]; simp only [List.length_singleton]; omega
theorem bank_len (g : Goes W n k s) (p : Lies n k a c) : (s.bank a c).length = c * k := by
  have := p.fit
  unfold FlS.bank
  rw [List.length_take, List.length_drop, g.l, g.k]; omega
theorem add_keep (g : Goes W n k s) (p : Lies n k a c) (he : e = (a + c) * k) (key val : List UInt8) : Kp e s (s.add a c key val).2 := by
  have hk := g.k
  have hbig := p.big
  have hm : (a + c) * k = a * k + c * k := Nat.add_mul ..
  unfold FlS.add
  split
  · exact Kp.rfl'
  split
  · exact Kp.rfl'
  split
  · exact Kp.rfl'
  split
  · exact Kp.rfl'
  rename_i h1 _ _ h2
  have hL := layB_len key val
  rw [hk, ← Int.natCast_mul] at h2
  have hA : (a : Int) * s.k + ((s.scan a c).2.1 : Int) = ((a * k + (s.scan a c).2.1 : Nat) : Int) := by rw [hk]; simp
  rw [hA]
  have hq : (a * k + (s.scan a c).2.1) + (12 + key.length + val.length) ≤ e := by omega
  generalize a * k + (s.scan a c).2.1 = q at *
  unfold FlS.add3
  split
  · exact prog_keep _ (by simp only [List.length_singleton]; omega)
  split
  · exact (prog_keep _ (by simp only [List.length_singleton]; omega)).trans (prog_keep _ (by omega))
  · exact ((prog_keep _ (by simp only [List.length_singleton]; omega)).trans (prog_keep _ (by omega))).trans (prog_keep _ (by simp only [List.length_singleton]; omega))
theorem kill_keep (g : Goes W n k s) (p : Lies n k a c) (he : e = (a + c) * k) (i : Int) : Kp e s (s.kill a c i).2 := by
  have hk := g.k
  have hm : (a + c) * k = a * k + c * k := Nat.add_mul ..
  unfold FlS.kill
  split
  · exact Kp.rfl'
  split
  · exact Kp.rfl'
  rename_i h1
  obtain ⟨j, rfl⟩ : ∃ j : Nat, i = (j : Int) := ⟨i.toNat, by omega⟩
  have hj : j < (s.scan a c).1.length := by omega
  have hle := (scanG_le (s.bank a c) _ 16 rfl).1 _ (List.getElem_mem hj)
  rw [bank_len g p] at hle
  refine prog_keep _ ?_
  rw [Int.toNat_natCast, List.getD_eq_getElem?_getD, List.getElem?_map, List.getElem?_eq_getElem hj]
  simp only [Option.map_some, Option.getD_some, List.length_singleton]
  rw [hk, ← Int.natCast_mul]
  have : (s.scan a c).1[j].at_ < c * k := hle
  omega
end
/-- what is done with a bank, the program of any bytes left out -/
def doesB (s : FlS) (a c : Nat) (o : OpB) : FlS :=
  if o.K = 0 then (s.format a c (o.n % 4294967296 % 4294967296)).2 else if o.K = 1 then (s.prog ((a : Int) * s.k + 12) [254]).2 else if o.K = 4 then (s.add a c o.key o.val).2 else if o.K = 5 then (s.kill a c o.n).2 else if o.K = 6 then (s.arm o.n o.p).2 else if o.K = 7 then s.on.2 else s
theorem does_keep {W : Int} {n k : Nat} {s : FlS} {a c e : Nat} (g : Goes W n k s) (p : Lies n k a c) (he : e = (a + c) * k) (o : OpB) : Kp e s (doesB s a c o) := by
  unfold doesB
  split
  · exact format_keep g p he _
  split
  · exact ready_keep g p he
  split
  · exact add_keep g p he _ _
  split
  · exact kill_keep g p he _
  split
  · unfold FlS.arm
    split
    · exact Kp.rfl'
    · split <;> exact Kp.rfl'
  split
  · unfold FlS.on
    split <;> exact Kp.rfl'
  · exact Kp.rfl'
theorem Goes.doesB {W : Int} {n k : Nat} {s : FlS} {a c : Nat} (g : Goes W n k s) (p : Lies n k a c) (hc : c ≤ 8) (o : OpB) (ho : OpBOk o) : Goes (W + 65804) n k (doesB s a c o) := by
  unfold Go.Proofs.YtddocchgikaahaaDoor.doesB
  split
  · exact (g.format a c _).mono (by omega)
  split
  · exact (g.prog _ _).mono (by simp only [List.length_singleton]; omega)
  split
  · exact g.add a c _ _
  split
  · exact (g.kill a c _).mono (by omega)
  split
  · exact (g.arm _ _ ho.n ho.p).mono (by omega)
  split
  · exact g.on.mono (by omega)
  · exact g.mono (by omega)
end Go.Proofs.YtddocchgikaahaaDoor
