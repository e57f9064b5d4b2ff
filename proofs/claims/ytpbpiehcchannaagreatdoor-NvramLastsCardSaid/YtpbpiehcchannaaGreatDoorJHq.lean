/- What is done, as a law's caller hands it in. The document's map as sorted records, and a store beside it: the plain law. Calls of a store one behind the other, and the map beside it: the plain law. Conditions: the premises of each law. -/
import Derived.Test.YtpbpiehcchannaaGreatDoorJBn0
import Derived.Test.YtpbpiehcchannaaGreatDoorJGf
import Derived.Test.YtpbpiehcchannaaGreatDoorJNr1
import Derived.Test.YtpbpiehcchannaaGreatDoorJHp
import Derived.Test.YtpbpiehcchannaaGreatDoorJHv
namespace Go.Proofs.YtpbpiehcchannaaGreatDoor
open Go.RowKit
set_option linter.unusedVariables false
set_option linter.unusedSimpArgs false
set_option maxRecDepth 100000
set_option maxHeartbeats 1500000
structure OpB where
 K : Int
 n : Int
 p : Int
 key : List UInt8
 val : List UInt8
def opB (z : Nat) (o : OpB) : List AV := [.val (.int .i64 o.K), .val (.int .i64 o.n), .val (.int .i64 o.p), .bs z o.key, .bs z o.val]
def opB0 : OpB := ⟨0, 0, 0, [], []⟩
structure OpBOk (o : OpB) : Prop where
 K : I64 o.K
 n : I64 o.n
 p : I64 o.p
 key : o.key.length ≤ 140737488355328
 val : o.val.length ≤ 140737488355328
def sumV : List OpB → Int
 | [] => 0
 | o :: l => min (o.key.length : Int) 262144 + min (o.val.length : Int) 262144 + sumV l
theorem sumV_snoc (o : OpB) : ∀ l, sumV (l ++ [o]) = sumV l + (min (o.key.length : Int) 262144 + min (o.val.length : Int) 262144)
 | [] => by simp [sumV]
 | x :: l => by
  have := sumV_snoc o l
  simp only [List.cons_append, sumV, this]; omega
theorem sumV_nonneg : ∀ l, 0 ≤ sumV l
 | [] => Int.le_refl _
 | o :: l => by have := sumV_nonneg l; simp only [sumV]; omega
theorem sumV_take {l : List OpB} {i : Nat} (h : i < l.length) : sumV (l.take (i + 1)) = sumV (l.take i) + (min ((l.getD i opB0).key.length : Int) 262144 + min ((l.getD i opB0).val.length : Int) 262144) := by
 rw [List.take_succ_eq_append_getElem h, sumV_snoc, List.getD_eq_getElem?_getD, List.getElem?_eq_getElem h]; rfl
theorem sumV_le (l : List OpB) (i : Nat) : sumV (l.take i) ≤ sumV l := by
 have key : ∀ (a b : List OpB), sumV (a ++ b) = sumV a + sumV b := by
  intro a b
  induction a with
  | nil => simp [sumV]
  | cons x a ih => simp only [List.cons_append, sumV, ih]; omega
 have h := congrArg sumV (List.take_append_drop i l)
 rw [key] at h
 have := sumV_nonneg (l.drop i)
 omega
theorem take_next {α : Type} {a b : List α} {i : Nat} {d : α} (ha : i < a.length) (hb : i < b.length) (h : a.take i = b.take i) (he : a.getD i d = b.getD i d) : a.take (i + 1) = b.take (i + 1) := by
 rw [List.take_succ_eq_append_getElem ha, List.take_succ_eq_append_getElem hb, h]
 rw [List.getD_eq_getElem?_getD, List.getD_eq_getElem?_getD, List.getElem?_eq_getElem ha, List.getElem?_eq_getElem hb] at he
 rw [show a[i] = b[i] from he]
end Go.Proofs.YtpbpiehcchannaaGreatDoor
namespace Go.Proofs.YtpbpiehcchannaaGreatDoor
set_option linter.unusedVariables false
set_option linter.unusedSimpArgs false
def ksR (R : List RK) : List (List UInt8) := R.map fun r => r.key
def vsR (R : List RK) : List (List UInt8) := R.map fun r => r.val
theorem ksR_len (R : List RK) : (ksR R).length = R.length := List.length_map ..
theorem vsR_len (R : List RK) : (vsR R).length = R.length := List.length_map ..
theorem dropAt_zero (x : List UInt8) (l : List (List UInt8)) : dropAt (x :: l) 0 = l := by simp [dropAt]
theorem dropAt_succ (x : List UInt8) (l : List (List UInt8)) (p : Nat) : dropAt (x :: l) (p + 1) = x :: dropAt l p := by simp [dropAt]
theorem atI_cons (r : RK) (R : List RK) (key : List UInt8) : atI (ksR (r :: R)) key = if r.key = key then 0 else 1 + atI (ksR R) key := rfl
theorem atI_in : ∀ (R : List RK) (key : List UInt8), atI (ksR R) key < R.length ↔ ∃ r ∈ R, r.key = key
 | [], key => by simp
 | r :: R, key => by
  have ih := atI_in R key
  rw [atI_cons]
  by_cases h : r.key = key
  ·rw [if_pos h]; simp [h]
  ·rw [if_neg h, List.length_cons, show (1 + atI (ksR R) key < R.length + 1) = (atI (ksR R) key < R.length) by rw [Nat.add_comm, Nat.add_lt_add_iff_right], ih]
   simp [h]
theorem delR_out {R : List RK} {key : List UInt8} (h : ∀ r ∈ R, r.key ≠ key) : delR R key = R := by
 unfold delR
 rw [List.filter_eq_self]
 intro r hr
 simp [h r hr]
theorem drop_R : ∀ (R : List RK) (key : List UInt8), SortK R → (∃ r ∈ R, r.key = key) → dropAt (ksR R) (atI (ksR R) key) = ksR (delR R key) ∧ dropAt (vsR R) (atI (ksR R) key) = vsR (delR R key)
 | [], key, _, h => by obtain ⟨r, hr, _⟩ := h; cases hr
 | r :: R, key, hs, h => by
  unfold SortK at hs
  rw [List.pairwise_cons] at hs
  rw [atI_cons]
  by_cases hk : r.key = key
  ·have hd : delR (r :: R) key = R := by
     have h1 : delR R key = R := delR_out fun x hx e => by
      have := hs.1 x hx
      rw [e, ← hk, ltB_irr] at this
      cases this
     unfold delR at h1 ⊢
     rw [List.filter_cons_of_neg (by simp [hk]), h1]
   rw [if_pos hk, hd]
   exact ⟨dropAt_zero _ _, dropAt_zero _ _⟩
  ·have hd : delR (r :: R) key = r :: delR R key := by
     unfold delR
     rw [List.filter_cons_of_pos (by simp [hk])]
   obtain ⟨x, hx, he⟩ := h
   have hx' : x ∈ R := by
    rcases List.mem_cons.1 hx with rfl | hx
    ·exact absurd he hk
    ·exact hx
   obtain ⟨i1, i2⟩ := drop_R R key hs.2 ⟨x, hx', he⟩
   rw [if_neg hk, hd, Nat.add_comm]
   exact ⟨by show dropAt (r.key :: ksR R) _ = r.key :: _; rw [dropAt_succ, i1]; rfl, by show dropAt (r.val :: vsR R) _ = r.val :: _; rw [dropAt_succ, i2]; rfl⟩
theorem delM_R {R : List RK} (hs : SortK R) (key : List UInt8) : delM (ksR R) (vsR R) key = (ksR (delR R key), vsR (delR R key)) := by
 by_cases h : ∃ r ∈ R, r.key = key
 ·have h1 := (atI_in R key).2 h
  unfold delM
  rw [if_pos (by rw [ksR_len]; exact h1), (drop_R R key hs h).1, (drop_R R key hs h).2]
 ·have h1 : ¬ atI (ksR R) key < (ksR R).length := by rw [ksR_len, atI_in]; exact h
  unfold delM
  rw [if_neg h1, delR_out fun r hr e => h ⟨r, hr, e⟩]
theorem insI_R : ∀ (R : List RK) (key : List UInt8), insI (ksR R) key = (R.takeWhile fun r => ltB r.key key).length
 | [], key => rfl
 | r :: R, key => by
  have ih := insI_R R key
  show (if Op.bytesLess r.key key = true then 1 + insI (ksR R) key else 0) = _
  cases h : ltB r.key key with
  | true =>
   have h' : Op.bytesLess r.key key = true := h
   rw [if_pos h', List.takeWhile_cons_of_pos (p := fun r : RK => ltB r.key key) h, List.length_cons, ih, Nat.add_comm]
  | false =>
   rw [if_neg (by rw [show Op.bytesLess r.key key = false from h]; simp), List.takeWhile_cons_of_neg (p := fun r : RK => ltB r.key key) (by simp [h])]
   rfl
theorem put_R (R : List RK) (x : RK) : putAt (ksR R) (insI (ksR R) x.key) x.key = ksR (insR R x) ∧ putAt (vsR R) (insI (ksR R) x.key) x.val = vsR (insR R x) := by
 have h : (R.takeWhile (fun r => ltB r.key x.key) ++ R.dropWhile (fun r => ltB r.key x.key)) = R := List.takeWhile_append_dropWhile
 rw [insI_R]
 unfold insR putAt ksR vsR
 generalize R.takeWhile (fun r => ltB r.key x.key) = a at h ⊢
 generalize R.dropWhile (fun r => ltB r.key x.key) = b at h ⊢
 subst h
 constructor
 ·rw [List.map_append, List.take_left' (by simp), List.drop_left' (by simp)]; simp
 ·rw [List.map_append, List.take_left' (by simp), List.drop_left' (by simp)]; simp
theorem usedK_snoc (r : RK) : ∀ l : List RK, usedK (l ++ [r]) = usedK l + (12 + r.key.length + r.val.length)
 | [] => by simp [usedK]
 | x :: l => by
  have := usedK_snoc r l
  simp only [List.cons_append, usedK, this]; omega
theorem usedM_R (R : List RK) : ∀ n, n ≤ R.length → usedM (ksR R) (vsR R) n = usedK (R.take n)
 | 0, _ => by simp [usedM, usedK]
 | n + 1, h => by
  have ih := usedM_R R n (by omega)
  have hn : n < R.length := by omega
  have h1 : (ksR R).getD n [] = R[n].key := by unfold ksR; rw [List.getD_eq_getElem?_getD, List.getElem?_map, List.getElem?_eq_getElem hn]; rfl
  have h2 : (vsR R).getD n [] = R[n].val := by unfold vsR; rw [List.getD_eq_getElem?_getD, List.getElem?_map, List.getElem?_eq_getElem hn]; rfl
  rw [usedM, ih, h1, h2, List.take_succ_eq_append_getElem hn, usedK_snoc]
theorem usedM_all (R : List RK) : usedM (ksR R) (vsR R) (ksR R).length = usedK R := by
 rw [ksR_len, usedM_R R _ (Nat.le_refl _), List.take_length]
def setE (R : List RK) (room : Int) (key val : List UInt8) : Int := if key.length < 1 ∨ 255 < key.length ∨ 65536 < val.length then 1 else if room < (usedK R + (12 + key.length + val.length) : Nat) then 5 else 0
def setW (R : List RK) (room : Int) (key val : List UInt8) : List RK := if setE R room key val = 0 then setR R key val else R
theorem setV_R {R : List RK} (hs : SortK R) (room : Int) (key val : List UInt8) : setV (ksR R) (vsR R) room key val = (setE R room key val, ksR (setW R room key val), vsR (setW R room key val)) := by
 unfold setV setW setE
 rw [usedM_all, delM_R hs]
 by_cases h1 : key.length < 1 ∨ 255 < key.length ∨ 65536 < val.length
 ·simp only [if_pos h1]; rfl
 ·simp only [if_neg h1]
  by_cases h2 : room < (usedK R + (12 + key.length + val.length) : Nat)
  ·simp only [if_pos h2]; rfl
  ·simp only [if_neg h2, if_true]
   have := put_R (delR R key) ⟨key, val, true⟩
   unfold setR
   rw [← this.1, ← this.2]
def delE (R : List RK) (key : List UInt8) : Int := if atI (ksR R) key < (ksR R).length then 0 else 3
theorem delE_in {R : List RK} {key : List UInt8} (h : ∃ r ∈ R, r.key = key) : delE R key = 0 := if_pos (by rw [ksR_len]; exact (atI_in R key).2 h)
theorem delE_out {R : List RK} {key : List UInt8} (h : ∀ r ∈ R, r.key ≠ key) : delE R key = 3 := if_neg (by rw [ksR_len, atI_in]; rintro ⟨r, hr, e⟩; exact h r hr e)
structure SM (s : FlS) (c k i : Nat) (R : List RK) : Prop where
 ex : ∃ (G : Int) (M : List RK), NM s c k G M ∧ RM M R ∧ G ≤ 1 + i
 go : Goes (1000 + i * 300000000000) (2 * c * k) k s
 len : R.length ≤ i
 ok : ∀ r ∈ R, OkK r
theorem SM.sort {s : FlS} {c k i : Nat} {R : List RK} (h : SM s c k i R) : SortK R := by
 obtain ⟨G, M, _, h2, _⟩ := h.ex
 exact h2.sort
theorem SM.mono {s : FlS} {c k i j : Nat} {R : List RK} (h : SM s c k i R) (hij : i ≤ j) : SM s c k j R := by
 obtain ⟨G, M, h1, h2, h3⟩ := h.ex
 exact ⟨⟨G, M, h1, h2, by omega⟩, h.go.mono (by omega), Nat.le_trans h.len hij, h.ok⟩
theorem delR_len (R : List RK) (key : List UInt8) : (delR R key).length ≤ R.length := List.length_filter_le ..
theorem setR_len (R : List RK) (key val : List UInt8) : (setR R key val).length ≤ R.length + 1 := by
 have h := (insR_perm (delR R key) ⟨key, val, true⟩).length_eq
 have := delR_len R key
 unfold setR
 rw [h, List.length_append, List.length_singleton]; omega
theorem SM.set {s : FlS} {c k i : Nat} {R : List RK} (h : SM s c k i R) (hi : i ≤ 4000000000) (hk : 0 < k) (pa : Lies (2 * c * k) k 0 c) (pb : Lies (2 * c * k) k c c) (key val : List UInt8) :
    (s.set c key val).1 = setE R ((c * k - 16 : Nat) : Int) key val ∧ SM (s.set c key val).2 c k (i + 1) (setW R ((c * k - 16 : Nat) : Int) key val) ∧ (setE R ((c * k - 16 : Nat) : Int) key val ≠ 0 → (s.set c key val).2 = s) := by
 obtain ⟨G, M, h1, h2, h3⟩ := h.ex
 have hu := h2.used
 unfold setW
 by_cases hb : key.length < 1 ∨ 255 < key.length ∨ 65536 < val.length
 ·have e : s.set c key val = (1, s) := by unfold FlS.set; rw [if_pos hb]
  have e2 : setE R ((c * k - 16 : Nat) : Int) key val = 1 := if_pos hb
  rw [e, e2, if_neg (by decide)]
  exact ⟨rfl, h.mono (Nat.le_succ i), fun _ => rfl⟩
 ·have hs := h1.set hk (by omega : G < 4294967295) (key := key) (val := val) ⟨by omega, by omega⟩ (by omega)
  by_cases hf : ((c * k - 16 : Nat) : Int) < (usedK R + (12 + key.length + val.length) : Nat)
  ·have e := hs.1 (by rw [← hu]; omega)
   have e2 : setE R ((c * k - 16 : Nat) : Int) key val = 5 := by unfold setE; rw [if_neg hb, if_pos hf]
   rw [e, e2, if_neg (by decide)]
   exact ⟨rfl, h.mono (Nat.le_succ i), fun _ => rfl⟩
  ·obtain ⟨s', e, m'⟩ := hs.2 (by rw [← hu]; omega)
   have e2 : setE R ((c * k - 16 : Nat) : Int) key val = 0 := by unfold setE; rw [if_neg hb, if_neg hf]
   have gg := h.go.set pa pb key val
   rw [e] at gg ⊢
   rw [e2, if_pos rfl]
   have hperm := insR_perm (delR R key) ⟨key, val, true⟩
   refine ⟨rfl, ⟨⟨G + 1, _, m', h2.set key val, by omega⟩, gg.mono (by omega), Nat.le_trans (setR_len R key val) (Nat.succ_le_succ h.len), fun r hr => ?_⟩, fun q => absurd rfl q⟩
   rcases List.mem_append.1 (hperm.mem_iff.1 hr) with hr | hr
   ·exact h.ok r (List.mem_filter.1 hr).1
   ·rw [List.mem_singleton] at hr; subst hr
    exact ⟨⟨by show 1 ≤ key.length; omega, by show key.length ≤ 255; omega⟩, by show val.length ≤ 65536; omega⟩
theorem Goes.del {B : Int} {n k : Nat} {s : FlS} (g : Goes B n k s) (c : Nat) (key : List UInt8) : Goes (B + 1) n k (s.del c key).2 := by
 unfold FlS.del
 split
 ·exact g.mono (by omega)
 ·split
  ·exact g.mono (by omega)
  ·exact g.kill _ _ _
theorem lies0 {c k : Nat} (h1 : 1 ≤ c) (h2 : c ≤ 4194304) (hbig : 64 ≤ c * k) : Lies (2 * c * k) k 0 c := ⟨h1, hbig, by rw [Nat.zero_mul, Nat.zero_add]; exact Nat.mul_le_mul_right k (by omega), by omega, h2⟩
theorem liesC {c k : Nat} (h1 : 1 ≤ c) (h2 : c ≤ 4194304) (hbig : 64 ≤ c * k) : Lies (2 * c * k) k c c := ⟨h1, hbig, by rw [← Nat.add_mul]; exact Nat.mul_le_mul_right k (by omega), h2, h2⟩
theorem SM.del {s : FlS} {c k i : Nat} {R : List RK} (h : SM s c k i R) (key : List UInt8) :
    (s.del c key).1 = delE R key ∧ SM (s.del c key).2 c k (i + 1) (delR R key) ∧ (delE R key ≠ 0 → (s.del c key).2 = s ∧ delR R key = R) := by
 obtain ⟨G, M, h1, h2, h3⟩ := h.ex
 have hd := h1.del key
 by_cases hx : ∃ r ∈ R, r.key = key
 ·have hx' : ∃ r ∈ M, r.key = key := by obtain ⟨r, hr, e⟩ := hx; exact ⟨r, h2.perm.mem_iff.1 hr, e⟩
  obtain ⟨s', e, m'⟩ := hd.2 hx'
  have gg := h.go.del c key
  rw [e] at gg ⊢
  rw [delE_in hx]
  exact ⟨rfl, ⟨⟨G, _, m', h2.del key, by omega⟩, gg.mono (by omega), Nat.le_trans (delR_len R key) (Nat.le_succ_of_le h.len), fun r hr => h.ok r (List.mem_filter.1 hr).1⟩, fun q => absurd rfl q⟩
 ·have hx1 : ∀ r ∈ R, r.key ≠ key := fun r hr e => hx ⟨r, hr, e⟩
  have e := hd.1 fun r hr q => hx1 r (h2.perm.mem_iff.2 hr) q
  rw [e, delE_out hx1, delR_out hx1]
  exact ⟨rfl, h.mono (Nat.le_succ i), fun _ => ⟨rfl, rfl⟩⟩
theorem SM.new {c k : Nat} (hc : 2 ≤ 2 * c ∧ 2 * c ≤ 64) (hk : 16 ≤ k ∧ k ≤ 65536) (hbig : 64 ≤ c * k) : ∃ s, (FlS.new (2 * c) k).opn c = (0, s) ∧ SM s c k 0 [] := by
 obtain ⟨s1, b1, o1, m1⟩ := NM.new (c := c) (k := k) (by omega) hbig
 have g0 : Goes 0 (2 * c * k) k (FlS.new (2 * c) k) := Goes.new (2 * c) k (by omega) hk
 have g1 := g0.bgn0 c 1
 rw [b1] at g1
 exact ⟨s1, o1, ⟨⟨1, [], m1, RM.nil, by omega⟩, g1.mono (by omega), Nat.zero_le _, fun r hr => by cases hr⟩⟩
end Go.Proofs.YtpbpiehcchannaaGreatDoor
namespace Go.Proofs.YtpbpiehcchannaaGreatDoor
set_option linter.unusedVariables false
set_option linter.unusedSimpArgs false
end Go.Proofs.YtpbpiehcchannaaGreatDoor
