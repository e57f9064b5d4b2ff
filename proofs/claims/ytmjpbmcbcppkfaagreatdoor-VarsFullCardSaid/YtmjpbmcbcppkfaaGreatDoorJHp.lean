/- A store without losses of power: the plain law. A store without losses of power is a map: the plain law. Opening a store, and asking it: the plain law. What a store's look at its bank sees: the plain law. A store as a sorted map: the plain law. Conditions: the premises of each law. -/
import Derived.Test.YtmjpbmcbcppkfaaGreatDoorJHd
import Derived.Lib.Bytealg
namespace Go.Proofs.YtmjpbmcbcppkfaaGreatDoor
set_option linter.unusedVariables false
set_option linter.unusedSimpArgs false
def headO (O : List UInt8) : Int × Bool := if (O.take 16).take 12 = headB (numB (((O.take 16).drop 4).take 4)) then ((numB (((O.take 16).drop 4).take 4) : Int), decide ((((O.take 16).getD 12 0).toNat : Int) = 254)) else (0, false)
theorem head_of {s : FlS} {a : Nat} {O : List UInt8} (hd : s.dd = false) (h : (s.l.drop (a * s.k)).take 16 = O.take 16) : s.head a = ((headO O).1, (headO O).2, 0) := by
 unfold FlS.head headO
 rw [hd, h, if_neg (by simp)]
 split <;> rfl
structure NG (s : FlS) (c k i : Nat) (g : Int) (l : List Rc) (m : Nat) (O : List UInt8) : Prop where
 bi : BI s (i * c) c (if i = 0 then [] else O) (headR g) l m (if i = 0 then O else [])
 hk : s.k = k
 har : s.ar = 0
 hi : i = 0 ∨ i = 1
 hO : O.length = c * k
 hg : 0 ≤ g ∧ g ≤ 4294967295
 oth : (headO O).2 = false ∨ (headO O).1 < g
 big : 64 ≤ c * k
theorem put_eq' {s : FlS} {c i a : Nat} {g : Int} {r : Bool} (hc : s.cnt c = (i, g, r)) (ha : i * c = a) {l : List Rc} {e : Nat} {b : Bool} (hS : s.scan a c = (l, e, b)) {key val : List UInt8} : s.put c key val = if (s.add a c key val).1 = 0 then (if 0 ≤ lastK (l.map rkOf) key then (s.add a c key val).2.kill a c (lastK (l.map rkOf) key) else (0, (s.add a c key val).2)) else s.add a c key val := by
 unfold FlS.put FlS.recK FlS.recs
 rw [hc, ha, hS]
section
variable {s : FlS} {c k i : Nat} {g : Int} {l : List Rc} {m : Nat} {O : List UInt8}
theorem NG.cnt (h : NG s c k i g l m O) : s.cnt c = (i, g, true) := by
 have hH := headR_len g
 have him := h.bi.img
 have hn := h.bi.n
 have hk := h.hk
 have hO := h.hO
 have hb := h.big
 have hd := h.bi.dd
 rcases h.hi with rfl | rfl
 ·simp only [if_true] at him
  have h0 : s.head 0 = (g, true, 0) := head_is (a := 0) (P := []) (Q := encL l ++ (List.replicate m 255 ++ O)) hd him (by simp) h.hg
  have h1 : s.head c = ((headO O).1, (headO O).2, 0) := head_of hd (by
   rw [him, hk]
   have e : (headR g ++ (encL l ++ (List.replicate m 255 ++ O))) = (headR g ++ (encL l ++ List.replicate m 255)) ++ O := by simp
   rw [List.nil_append, e, List.drop_left' (by simp only [List.length_append, List.length_replicate, hH]; rw [hk] at hn; omega)])
  unfold FlS.cnt
  rw [h0, h1, if_neg]
  intro q
  rcases h.oth with o | o
  ·rw [o] at q; cases q.1
  ·rcases q.2 with q | q
   ·cases q
   ·simp only at q; omega
 ·simp only [if_neg (by decide : ¬ (1 : Nat) = 0)] at him
  have h1 : s.head c = (g, true, 0) := head_is (a := c) (P := O) (Q := encL l ++ (List.replicate m 255 ++ [])) hd him (by rw [hO, hk]) h.hg
  have h0 : s.head 0 = ((headO O).1, (headO O).2, 0) := head_of hd (by
   rw [Nat.zero_mul, List.drop_zero, him, List.take_append_of_le_length (by omega)])
  unfold FlS.cnt
  rw [h0, h1, if_pos]
  refine ⟨rfl, ?_⟩
  rcases h.oth with o | o
  ·exact .inl o
  ·exact .inr o
theorem NG.recs (h : NG s c k i g l m O) : s.recs c = (l, 16 + (encL l).length, true) := by
 unfold FlS.recs
 rw [h.cnt]
 exact h.bi.scan
theorem NG.recK (h : NG s c k i g l m O) : s.recK c = l.map rkOf := by
 unfold FlS.recK
 rw [h.recs]
def killR (l : List Rc) (L : Int) : List Rc := if 0 ≤ L then l.set L.toNat (l.getD L.toNat ⟨[], [], false, 0⟩).die else l
theorem NG.put (h : NG s c k i g l m O) {key val : List UInt8} (hk : 1 ≤ key.length ∧ key.length ≤ 255) (hv : val.length ≤ 65536) (hm : 12 + key.length + val.length ≤ m) :
    ∃ s' d, s.put c key val = (0, s') ∧ d = ⟨key, val, true, 16 + (encL l).length⟩ ∧ NG s' c k i g (killR l (lastK (l.map rkOf) key) ++ [d]) (m - (12 + key.length + val.length)) O := by
 obtain ⟨s1, e1, b1, k1, a1⟩ := h.bi.add_all (d := ⟨key, val, true, 16 + (encL l).length⟩) ⟨hk, hv⟩ rfl rfl hm (by have := h.har; omega)
 have ha1 : s1.ar = 0 := by rw [a1, h.har]; rfl
 have hlt := lastI_lt (l.map rkOf) key (l.map rkOf).length
 rw [List.length_map] at hlt
 have hL : lastK (l.map rkOf) key = lastI (l.map rkOf) key l.length := by unfold lastK; rw [List.length_map]
 rw [← hL] at hlt
 rw [put_eq' h.cnt rfl h.bi.scan, e1, if_pos rfl]
 generalize lastK (l.map rkOf) key = L at hlt
 by_cases h0 : 0 ≤ L
 ·obtain ⟨j, rfl⟩ : ∃ j : Nat, L = (j : Int) := ⟨L.toNat, by omega⟩
  have hj : j < l.length := by omega
  obtain ⟨l1, x, l2, rfl, rfl⟩ : ∃ l1 d l2, l = l1 ++ d :: l2 ∧ l1.length = j := ⟨l.take j, l[j], l.drop (j + 1), by rw [List.getElem_cons_drop, List.take_append_drop], by rw [List.length_take]; omega⟩
  rw [List.append_assoc, List.cons_append] at b1
  obtain ⟨s2, e2, b2, k2, a2⟩ := b1.kill_all (by omega)
  rw [if_pos h0, e2]
  have hKR : killR (l1 ++ x :: l2) (l1.length : Int) = l1 ++ x.die :: l2 := by
   unfold killR
   rw [if_pos h0, Int.toNat_natCast, List.set_append_right _ _ (Nat.le_refl _), Nat.sub_self, List.set_cons_zero, List.getD_eq_getElem?_getD, List.getElem?_append_right (Nat.le_refl _), Nat.sub_self]
   rfl
  rw [hKR]
  exact ⟨s2, _, rfl, rfl, ⟨by rw [List.append_assoc]; exact b2, by rw [k2, k1, h.hk], by rw [a2, ha1]; rfl, h.hi, h.hO, h.hg, h.oth, h.big⟩⟩
 ·rw [if_neg h0]
  have hKR : killR l L = l := by unfold killR; rw [if_neg h0]
  rw [hKR]
  exact ⟨s1, _, rfl, rfl, ⟨b1, by rw [k1, h.hk], ha1, h.hi, h.hO, h.hg, h.oth, h.big⟩⟩
end
def placeK : Nat → List RK → List Rc
 | _, [] => []
 | a, r :: l => ⟨r.key, r.val, true, a⟩ :: placeK (a + (12 + r.key.length + r.val.length)) l
theorem placeK_rk : ∀ (K : List RK) (a : Nat), (∀ r ∈ K, r.lv = true) → (placeK a K).map rkOf = K
 | [], a, _ => rfl
 | r :: K, a, h => by
  rw [placeK, List.map_cons, placeK_rk K _ fun x hx => h x (List.mem_cons_of_mem _ hx)]
  have := h r (List.mem_cons_self ..)
  obtain ⟨x, y, z⟩ := r
  simp only at this
  subst this
  rfl
def OkK (r : RK) : Prop := (1 ≤ r.key.length ∧ r.key.length ≤ 255) ∧ r.val.length ≤ 65536
theorem BI.adds {a c : Nat} {P H Q : List UInt8} : ∀ (K : List RK) {s : FlS} {l : List Rc} {m : Nat}, BI s a c P H l m Q → s.ar = 0 → (∀ r ∈ K, OkK r) → usedK K ≤ m →
    ∃ s', s.adds a c K = (0, s') ∧ BI s' a c P H (l ++ placeK (16 + (encL l).length) K) (m - usedK K) Q ∧ s'.k = s.k ∧ s'.ar = 0
 | [], s, l, m, h, ha, _, _ => ⟨s, rfl, by rw [placeK, List.append_nil]; exact h, rfl, ha⟩
 | r :: K, s, l, m, h, ha, hK, hm => by
  have hr := hK r (List.mem_cons_self ..)
  simp only [usedK] at hm
  obtain ⟨s1, e1, b1, k1, a1⟩ := h.add_all (d := ⟨r.key, r.val, true, 16 + (encL l).length⟩) ⟨hr.1, hr.2⟩ rfl rfl (by show 12 + r.key.length + r.val.length ≤ m; omega) (by omega)
  have ha1 : s1.ar = 0 := by rw [a1, ha]; rfl
  obtain ⟨s2, e2, b2, k2, a2⟩ := BI.adds K b1 ha1 (fun x hx => hK x (List.mem_cons_of_mem _ hx)) (by show usedK K ≤ m - (12 + r.key.length + r.val.length); omega)
  refine ⟨s2, ?_, ?_, by rw [k2, k1], a2⟩
  ·show (if (s.add a c r.key r.val).1 = 0 then (s.add a c r.key r.val).2.adds a c K else s.add a c r.key r.val) = (0, s2)
   have e1' : s.add a c r.key r.val = (0, s1) := e1
   rw [e1', if_pos rfl, e2]
  ·have el : (encL (l ++ [(⟨r.key, r.val, true, 16 + (encL l).length⟩ : Rc)])).length = (encL l).length + (12 + r.key.length + r.val.length) := by
     rw [encL_append, List.length_append]
     show (encL l).length + (encL [(⟨r.key, r.val, true, 16 + (encL l).length⟩ : Rc)]).length = _
     simp only [encL, List.flatMap_cons, List.flatMap_nil, List.append_nil, encR_len]
     rfl
   rw [List.append_assoc, el] at b2
   have ep : placeK (16 + (encL l).length) (r :: K) = ⟨r.key, r.val, true, 16 + (encL l).length⟩ :: placeK (16 + ((encL l).length + (12 + r.key.length + r.val.length))) K := by
    rw [placeK, Nat.add_assoc]
   have em : m - usedK (r :: K) = m - lenR ⟨r.key, r.val, true, 16 + (encL l).length⟩ - usedK K := by
    unfold lenR; simp only [usedK]; omega
   rw [ep, em]
   exact b2
theorem format_bi {s : FlS} {a c : Nat} {P X Q : List UInt8} (hd : s.dd = false) (hk : 0 < s.k) (hl : s.l = P ++ (X ++ Q)) (hP : P.length = a * s.k) (hX : X.length = c * s.k) (h64 : 64 ≤ c * s.k) (har : s.ar = 0) (g : Int) :
    ∃ s1, s.format a c g = (0, s1) ∧ BI s1 a c P (headB g ++ [255, 255, 255, 255]) [] (c * s.k - 16) Q ∧ s1.k = s.k ∧ s1.ar = 0 := by
 refine ⟨_, format_all (g := g) hd hk hl hP hX (by omega) (by omega), ⟨?_, hP, by simp [headB_len], ?_, trivial, rfl⟩, rfl, ?_⟩
 ·show P ++ (headB g ++ (List.replicate (c * s.k - 12) 255 ++ Q)) = _
  rw [rep_split (by omega : 4 ≤ c * s.k - 12), show c * s.k - 12 - 4 = c * s.k - 16 by omega]
  simp [encL, List.replicate_succ]
 ·show 16 + (encL []).length + (c * s.k - 16) = c * s.k
  simp only [encL, List.flatMap_nil, List.length_nil]; omega
 ·show (if 0 < s.ar then s.ar - (c + 12) else s.ar) = 0
  rw [har]; rfl
theorem ready_bi {s : FlS} {a c : Nat} {P Q : List UInt8} {l : List Rc} {m : Nat} {g : Int} (h : BI s a c P (headB g ++ [255, 255, 255, 255]) l m Q) (har : s.ar = 0) :
    ∃ s', s.prog ((a : Int) * (s.k : Int) + 12) [254] = (0, s') ∧ BI s' a c P (headR g) l m Q ∧ s'.k = s.k ∧ s'.ar = 0 := by
 have hB := headB_len g
 rw [prog_all (m := [254]) (p := P ++ headB g) (q := [255]) (r := [255, 255, 255] ++ (encL l ++ (List.replicate m 255 ++ Q))) h.dd (by simp only [List.length_append, h.P, hB, Int.natCast_add, Int.natCast_mul]; rfl) rfl (by rw [h.img]; simp) (by omega)]
 refine ⟨_, rfl, ⟨?_, h.P, headR_len g, h.n, h.pl, rfl⟩, rfl, ?_⟩
 ·show P ++ headB g ++ ([255 &&& 254] ++ ([255, 255, 255] ++ (encL l ++ (List.replicate m 255 ++ Q)))) = _
  rw [ff_and]
  simp [headR]
 ·show (if 0 < s.ar then s.ar - (([254] : List UInt8).length : Int) else s.ar) = 0
  rw [har]; rfl
theorem bgn_bi {s : FlS} {a c : Nat} {P X Q : List UInt8} (hd : s.dd = false) (hk : 0 < s.k) (hl : s.l = P ++ (X ++ Q)) (hP : P.length = a * s.k) (hX : X.length = c * s.k) (h64 : 64 ≤ c * s.k) (har : s.ar = 0) (g : Int) (K : List RK) (hK : ∀ r ∈ K, OkK r) (hm : usedK K ≤ c * s.k - 16) :
    ∃ s', s.bgn a c g K = (0, s') ∧ BI s' a c P (headR g) (placeK 16 K) (c * s.k - 16 - usedK K) Q ∧ s'.k = s.k ∧ s'.ar = 0 := by
 obtain ⟨s1, e1, b1, k1, a1⟩ := format_bi hd hk hl hP hX h64 har g
 obtain ⟨s2, e2, b2, k2, a2⟩ := BI.adds K b1 a1 hK hm
 obtain ⟨s3, e3, b3, k3, a3⟩ := ready_bi b2 a2
 refine ⟨s3, ?_, ?_, by rw [k3, k2, k1], a3⟩
 ·unfold FlS.bgn
  rw [e1, if_pos rfl, e2, if_pos rfl]
  exact e3
 ·rw [List.nil_append] at b3
  exact b3
theorem headO_R (g : Int) (hg : 0 ≤ g ∧ g ≤ 4294967295) (r : List UInt8) : headO (headR g ++ r) = (g, true) := by
 have h := head_is (s := ⟨headR g ++ r, 0, 0, 0, false, 0⟩) (a := 0) (P := []) (Q := r) rfl rfl (by simp) hg
 have h2 := head_of (s := ⟨headR g ++ r, 0, 0, 0, false, 0⟩) (a := 0) (O := headR g ++ r) rfl (by simp)
 rw [h] at h2
 simp only [Prod.mk.injEq] at h2
 exact Prod.ext h2.1.symm h2.2.1.symm
theorem NG.copy {s : FlS} {c k i : Nat} {g : Int} {l : List Rc} {m : Nat} {O : List UInt8} (h : NG s c k i g l m O) (hk0 : 0 < k) (hg : g < 4294967295) (K : List RK) (hK : ∀ r ∈ K, OkK r) (hm : usedK K ≤ c * k - 16) :
    ∃ s' O', s.copy c K = (0, s') ∧ NG s' c k (1 - i) (g + 1) (placeK 16 K) (c * k - 16 - usedK K) O' := by
 have hn := h.bi.n
 have hH := headR_len g
 have hk := h.hk
 have him := h.bi.img
 have hO := h.hO
 have hg0 := h.hg
 have hbig := h.big
 rw [hk] at hn
 unfold FlS.copy
 rw [h.cnt]
 simp only
 rw [if_neg (by omega)]
 have hOl : (headR g ++ (encL l ++ List.replicate m 255)).length = c * k := by simp only [List.length_append, List.length_replicate, hH]; omega
 have hoo := headO_R g h.hg (encL l ++ List.replicate m 255)
 rcases h.hi with rfl | rfl
 ·simp only [if_true] at him
  obtain ⟨s', e, b, k1, a1⟩ := bgn_bi (s := s) (a := c) (c := c) (P := headR g ++ (encL l ++ List.replicate m 255)) (X := O) (Q := []) h.bi.dd (by omega) (by rw [him]; simp) (by rw [hOl, hk]) (by rw [hO, hk]) (by rw [hk]; exact hbig) h.har (g + 1) K hK (by rw [hk]; exact hm)
  refine ⟨s', headR g ++ (encL l ++ List.replicate m 255), ?_, ⟨?_, by rw [k1, hk], a1, .inr rfl, hOl, by omega, .inr (by rw [hoo]; simp only; omega), hbig⟩⟩
  ·rw [show (1 - 0) * c = c by omega]; exact e
  ·rw [hk] at b
   simp only [show (1 - 0 : Nat) = 1 from rfl, Nat.one_mul]
   exact b
 ·simp only [if_neg (by decide : ¬ (1 : Nat) = 0)] at him
  obtain ⟨s', e, b, k1, a1⟩ := bgn_bi (s := s) (a := 0) (c := c) (P := []) (X := O) (Q := headR g ++ (encL l ++ List.replicate m 255)) h.bi.dd (by omega) (by rw [him]; simp) (by simp) (by rw [hO, hk]) (by rw [hk]; exact hbig) h.har (g + 1) K hK (by rw [hk]; exact hm)
  refine ⟨s', headR g ++ (encL l ++ List.replicate m 255), ?_, ⟨?_, by rw [k1, hk], a1, .inl rfl, hOl, by omega, .inr (by rw [hoo]; simp only; omega), hbig⟩⟩
  ·rw [show (1 - 1) * c = 0 by omega]; exact e
  ·rw [hk] at b
   simp only [show (1 - 1 : Nat) = 0 from rfl, Nat.zero_mul]
   exact b
end Go.Proofs.YtmjpbmcbcppkfaaGreatDoor
namespace Go.Proofs.YtmjpbmcbcppkfaaGreatDoor
set_option linter.unusedVariables false
set_option linter.unusedSimpArgs false
def livK (l : List RK) : List RK := l.filter fun r => r.lv
def NodK (l : List RK) : Prop := ((livK l).map fun r => r.key).Nodup
theorem lastI_some (l : List RK) (key : List UInt8) : ∀ (n : Nat) (j : Nat), lastI l key n = (j : Int) → j < n ∧ (l.getD j rk0).lv = true ∧ (l.getD j rk0).key = key
 | 0, j, h => by simp only [lastI] at h; omega
 | n + 1, j, h => by
  rw [lastI] at h
  split at h
  ·rename_i q
   obtain rfl : n = j := by omega
   exact ⟨Nat.lt_succ_self _, q.1, q.2⟩
  ·obtain ⟨h1, h2⟩ := lastI_some l key n j h
   exact ⟨by omega, h2⟩
theorem lastI_none (l : List RK) (key : List UInt8) : ∀ (n : Nat), lastI l key n < 0 → ∀ i, i < n → ¬ ((l.getD i rk0).lv = true ∧ (l.getD i rk0).key = key)
 | 0, h, i, hi => absurd hi (Nat.not_lt_zero i)
 | n + 1, h, i, hi => by
  rw [lastI] at h
  split at h
  ·omega
  ·rename_i q
   rcases Nat.lt_or_eq_of_le (Nat.le_of_lt_succ hi) with h1 | h1
   ·exact lastI_none l key n h i h1
   ·rw [h1]; exact q
theorem livK_append (a b : List RK) : livK (a ++ b) = livK a ++ livK b := by simp [livK]
theorem liv_kill {l1 l2 : List RK} {x : RK} (hx : x.lv = true) (hN : NodK (l1 ++ x :: l2)) : livK (l1 ++ ⟨x.key, x.val, false⟩ :: l2) = (livK (l1 ++ x :: l2)).filter fun r => r.key != x.key := by
 have e : livK (l1 ++ x :: l2) = livK l1 ++ x :: livK l2 := by simp [livK, hx]
 have e2 : livK (l1 ++ ⟨x.key, x.val, false⟩ :: l2) = livK l1 ++ livK l2 := by simp [livK]
 unfold NodK at hN
 rw [e, List.map_append, List.map_cons, List.nodup_append, List.nodup_cons] at hN
 obtain ⟨h1, ⟨h2, h3⟩, h4⟩ := hN
 rw [e, e2, List.filter_append, List.filter_cons_of_neg (by simp)]
 congr 1
 ·symm
  rw [List.filter_eq_self]
  intro r hr
  have := h4 r.key (List.mem_map.2 ⟨r, hr, rfl⟩) x.key (List.mem_cons_self ..)
  simpa using this
 ·symm
  rw [List.filter_eq_self]
  intro r hr
  have : r.key ≠ x.key := fun q => h2 (by rw [← q]; exact List.mem_map.2 ⟨r, hr, rfl⟩)
  simpa using this
theorem liv_none {l : List RK} {key : List UInt8} (h : ∀ r ∈ l, ¬ (r.lv = true ∧ r.key = key)) : (livK l).filter (fun r => r.key != key) = livK l := by
 rw [List.filter_eq_self]
 intro r hr
 have hr' := List.mem_filter.1 hr
 have := h r hr'.1
 have h2 : r.key ≠ key := fun q => this ⟨hr'.2, q⟩
 simpa using h2
theorem nodK_put {M : List RK} {key val : List UInt8} (hN : (M.map fun r : RK => r.key).Nodup) : ((List.filter (fun r : RK => r.key != key) M ++ [(⟨key, val, true⟩ : RK)]).map fun r : RK => r.key).Nodup := by
 rw [List.map_append, List.nodup_append]
 refine ⟨?_, by simp, ?_⟩
 ·exact hN.sublist (List.Sublist.map _ List.filter_sublist)
 ·intro a ha b hb
  simp only [List.map_cons, List.map_nil, List.mem_singleton] at hb
  obtain ⟨r, hr, rfl⟩ := List.mem_map.1 ha
  have := (List.mem_filter.1 hr).2
  subst hb
  simpa using this
theorem keepB_lv {l : List RK} (hN : NodK l) {n : Nat} (hn : n < l.length) : keepB l n = l[n].lv := by
 have hg : l.getD n rk0 = l[n] := by rw [List.getD_eq_getElem?_getD, List.getElem?_eq_getElem hn]; rfl
 unfold keepB
 rw [hg]
 cases hv : l[n].lv with
 | true =>
  rw [decide_eq_true_iff]
  have hle : ∀ m : Nat, n < m → m ≤ l.length → lastI l l[n].key m = (n : Int) := by
   intro m
   induction m with
   | zero => intro h1; omega
   | succ m ihm =>
    intro h1 h2
    rw [lastI]
    by_cases hmn : m = n
    ·subst hmn
     rw [hg, if_pos ⟨hv, rfl⟩]
    ·have hm : m < l.length := by omega
     have hgm : l.getD m rk0 = l[m] := by rw [List.getD_eq_getElem?_getD, List.getElem?_eq_getElem hm]; rfl
     rw [hgm, if_neg, ihm (by omega) (by omega)]
     rintro ⟨q1, q2⟩
     have hs : l = l.take m ++ l[m] :: l.drop (m + 1) := by rw [List.getElem_cons_drop, List.take_append_drop]
     have e : livK l = livK (l.take m) ++ l[m] :: livK (l.drop (m + 1)) := by
      have e0 := congrArg livK hs
      rw [livK_append] at e0
      have e1 : livK (l[m] :: l.drop (m + 1)) = l[m] :: livK (l.drop (m + 1)) := List.filter_cons_of_pos q1
      rw [e1] at e0
      exact e0
     unfold NodK at hN
     rw [e, List.map_append, List.map_cons, List.nodup_append] at hN
     refine hN.2.2 l[n].key ?_ l[m].key (List.mem_cons_self ..) q2.symm
     refine List.mem_map.2 ⟨l[n], List.mem_filter.2 ⟨?_, hv⟩, rfl⟩
     exact List.mem_iff_getElem.2 ⟨n, by rw [List.length_take]; omega, by rw [List.getElem_take]⟩
  exact hle l.length hn (Nat.le_refl _)
 | false =>
  rw [decide_eq_false_iff_not]
  intro q
  have := (lastI_some l l[n].key l.length n q).2.1
  rw [hg, hv] at this
  cases this
theorem kept_liv {l : List RK} (hN : NodK l) : ∀ n : Nat, n ≤ l.length → ((keptI l n).map fun j => l.getD j rk0) = livK (l.take n)
 | 0, _ => by simp [keptI, livK]
 | n + 1, h => by
  have ih := kept_liv hN n (by omega)
  have hn : n < l.length := by omega
  have hg : l.getD n rk0 = l[n] := by rw [List.getD_eq_getElem?_getD, List.getElem?_eq_getElem hn]; rfl
  rw [keptI_succ, List.map_append, ih, List.take_succ_eq_append_getElem hn, livK_append]
  congr 1
  have key : keepB l n = l[n].lv := keepB_lv hN hn
  rw [key]
  cases hv : l[n].lv with
  | true =>
   rw [if_pos rfl, List.map_cons, List.map_nil, hg]
   simp [livK, hv]
  | false => simp [livK, hv]
theorem keptK_liv {l : List RK} (hN : NodK l) : keptK l = livK l := by
 have := kept_liv hN l.length (Nat.le_refl _)
 rw [List.take_length] at this
 exact this
def NM (s : FlS) (c k : Nat) (G : Int) (M : List RK) : Prop := ∃ i g l m O, NG s c k i g l m O ∧ g ≤ G ∧ livK (l.map rkOf) = M ∧ NodK (l.map rkOf) ∧ (∀ r ∈ M, OkK r)
def setM (M : List RK) (key val : List UInt8) : List RK := M.filter (fun r => r.key != key) ++ [⟨key, val, true⟩]
theorem put_liv {l : List Rc} {key val : List UInt8} {p : Nat} (hN : NodK (l.map rkOf)) : livK ((killR l (lastK (l.map rkOf) key) ++ [(⟨key, val, true, p⟩ : Rc)]).map rkOf) = setM (livK (l.map rkOf)) key val := by
 rw [List.map_append, livK_append]
 unfold setM
 congr 1
 have hlt := lastI_lt (l.map rkOf) key (l.map rkOf).length
 rw [List.length_map] at hlt
 have hL : lastK (l.map rkOf) key = lastI (l.map rkOf) key l.length := by unfold lastK; rw [List.length_map]
 rw [hL]
 by_cases h0 : 0 ≤ lastI (l.map rkOf) key l.length
 ·obtain ⟨j, hj⟩ : ∃ j : Nat, lastI (l.map rkOf) key l.length = (j : Int) := ⟨(lastI (l.map rkOf) key l.length).toNat, by omega⟩
  obtain ⟨j1, j2, j3⟩ := lastI_some _ _ _ _ hj
  rw [hj]
  obtain ⟨l1, x, l2, rfl, rfl⟩ : ∃ l1 d l2, l = l1 ++ d :: l2 ∧ l1.length = j := ⟨l.take j, l[j], l.drop (j + 1), by rw [List.getElem_cons_drop, List.take_append_drop], by rw [List.length_take]; omega⟩
  have hx : ((l1 ++ x :: l2).map rkOf).getD l1.length rk0 = rkOf x := by
   rw [List.getD_eq_getElem?_getD, List.getElem?_map, List.getElem?_append_right (Nat.le_refl _), Nat.sub_self]; rfl
  rw [hx] at j2 j3
  have hKR : killR (l1 ++ x :: l2) (l1.length : Int) = l1 ++ x.die :: l2 := by
   unfold killR
   rw [if_pos (by omega), Int.toNat_natCast, List.set_append_right _ _ (Nat.le_refl _), Nat.sub_self, List.set_cons_zero, List.getD_eq_getElem?_getD, List.getElem?_append_right (Nat.le_refl _), Nat.sub_self]
   rfl
  rw [hKR]
  rw [List.map_append, List.map_cons] at hN ⊢
  have := liv_kill j2 hN
  rw [← j3, List.map_append, List.map_cons, ← this]
  rfl
 ·have hKR : killR l (lastI (l.map rkOf) key l.length) = l := by unfold killR; rw [if_neg h0]
  rw [hKR]
  symm
  refine liv_none fun r hr => ?_
  obtain ⟨j, hj, rfl⟩ := List.getElem_of_mem hr
  have := lastI_none (l.map rkOf) key l.length (by omega) j (by rw [List.length_map] at hj; exact hj)
  rw [List.getD_eq_getElem?_getD, List.getElem?_eq_getElem hj] at this
  exact this
theorem NM.set {s : FlS} {c k : Nat} {G : Int} {M : List RK} (h : NM s c k G M) (hk0 : 0 < k) (hG : G < 4294967295) {key val : List UInt8} (hk : 1 ≤ key.length ∧ key.length ≤ 255) (hv : val.length ≤ 65536) :
    (c * k - 16 < usedK M + (12 + key.length + val.length) → s.set c key val = (5, s)) ∧
    (usedK M + (12 + key.length + val.length) ≤ c * k - 16 → ∃ s', s.set c key val = (0, s') ∧ NM s' c k (G + 1) (setM M key val)) := by
 obtain ⟨i, g, l, m, O, hn, hgG, hM, hN, hK⟩ := h
 have hbig := hn.big
 have hkk := hn.hk
 have hbn := hn.bi.n
 rw [hkk] at hbn
 have hcs : (c : Int) * (s.k : Int) = ((c * k : Nat) : Int) := by rw [hkk]; simp
 have hkl : keptK (l.map rkOf) = M := (keptK_liv hN).trans hM
 have hset : s.set c key val = if (c : Int) * s.k - 16 < usedK M + (12 + key.length + val.length) then (5, s) else if (true : Bool) = false ∨ (c : Int) * s.k - 16 + 16 - ((16 + (encL l).length : Nat) : Int) < 12 + key.length + val.length then (if (s.copy c M).1 = 0 then (if (s.copy c M).2.dd = true then (6, (s.copy c M).2) else (s.copy c M).2.put c key val) else s.copy c M) else s.put c key val := by
  unfold FlS.set
  rw [if_neg (by omega), hn.bi.dd, hn.recK, hn.recs, hkl]
  simp only [Bool.false_eq_true, if_false]
 rw [hset]
 constructor
 ·intro hf
  rw [if_pos (by omega)]
 ·intro hf
  rw [if_neg (by omega)]
  have fin : ∀ {t : FlS} {i' : Nat} {g' : Int} {l' : List Rc} {m' : Nat} {O' : List UInt8}, NG t c k i' g' l' m' O' → g' ≤ G + 1 → livK (l'.map rkOf) = M → NodK (l'.map rkOf) → 12 + key.length + val.length ≤ m' → ∃ s', t.put c key val = (0, s') ∧ NM s' c k (G + 1) (setM M key val) := by
   intro t i' g' l' m' O' ht hg' hl' hN' hm'
   obtain ⟨s', d, e1, rfl, e2⟩ := ht.put hk hv hm'
   have hpl := put_liv (l := l') (key := key) (val := val) (p := 16 + (encL l').length) hN'
   rw [hl'] at hpl
   refine ⟨s', e1, i', g', _, _, O', e2, hg', hpl, ?_, ?_⟩
   ·unfold NodK
    rw [hpl]
    unfold NodK at hN'
    rw [hl'] at hN'
    exact nodK_put hN'
   ·intro r hr
    unfold setM at hr
    rcases List.mem_append.1 hr with h1 | h1
    ·exact hK r (List.mem_filter.1 h1).1
    ·rw [List.mem_singleton] at h1
     subst h1
     exact ⟨hk, hv⟩
  by_cases hc : (c : Int) * s.k - 16 + 16 - ((16 + (encL l).length : Nat) : Int) < 12 + key.length + val.length
  ·rw [if_pos (.inr hc)]
   obtain ⟨t, O', e1, e2⟩ := hn.copy hk0 (by omega) M hK (by omega)
   rw [e1, if_pos rfl, if_neg (by rw [e2.bi.dd]; simp)]
   have hlv : ∀ r ∈ M, r.lv = true := by
    intro r hr
    rw [← hM] at hr
    exact (List.mem_filter.1 hr).2
   have hpk := placeK_rk M 16 hlv
   have hlm : livK M = M := by
    unfold livK
    rw [List.filter_eq_self]
    exact hlv
   refine fin e2 (by omega) (by rw [hpk, hlm]) ?_ (by omega)
   rw [hpk]
   unfold NodK
   rw [hlm]
   unfold NodK at hN
   rw [hM] at hN
   exact hN
  ·rw [if_neg (fun q => by rcases q with q | q; cases q; exact hc q)]
   exact fin hn (by omega) hM hN (by omega)
end Go.Proofs.YtmjpbmcbcppkfaaGreatDoor
namespace Go.Proofs.YtmjpbmcbcppkfaaGreatDoor
set_option linter.unusedVariables false
set_option linter.unusedSimpArgs false
theorem tidy_still {s : FlS} {a c : Nat} {l : List RK} (hN : NodK l) : ∀ (m k : Nat), k + m = l.length → s.tidyL a c l k m = (0, s)
 | 0, k, h => rfl
 | m + 1, k, h => by
  have hk : k < l.length := by omega
  have hg : l.getD k rk0 = l[k] := by rw [List.getD_eq_getElem?_getD, List.getElem?_eq_getElem hk]; rfl
  rw [FlS.tidyL, if_neg, tidy_still hN m (k + 1) (by omega)]
  rintro ⟨q1, q2⟩
  have h1 := keepB_lv hN hk
  rw [hg] at q1 q2
  rw [q1] at h1
  unfold keepB at h1
  rw [hg, decide_eq_true_iff] at h1
  exact q2 h1
theorem NM.tidy {s : FlS} {c k : Nat} {G : Int} {M : List RK} (h : NM s c k G M) : s.tidy c = (0, s) := by
 obtain ⟨i, g, l, m, O, hn, hgG, hM, hN, hK⟩ := h
 unfold FlS.tidy
 rw [hn.bi.dd, hn.recK, if_neg (by simp)]
 exact tidy_still hN _ 0 (by omega)
theorem NM.opn {s : FlS} {c k : Nat} {G : Int} {M : List RK} (h : NM s c k G M) : s.opn c = (0, s) := by
 have ht := h.tidy
 obtain ⟨i, g, l, m, O, hn, hgG, hM, hN, hK⟩ := h
 unfold FlS.opn
 rw [hn.bi.dd, if_neg (by simp), hn.cnt, if_neg (by simp), ht]
theorem NM.live {s : FlS} {c k : Nat} {G : Int} {M : List RK} (h : NM s c k G M) : s.dd = false := by
 obtain ⟨i, g, l, m, O, hn, _⟩ := h
 exact hn.bi.dd
theorem rep_head (n : Nat) : (List.replicate (n + 1) (255 : UInt8)).head? = some 255 := rfl
theorem headO_ff (n : Nat) (h : 16 ≤ n) : (headO (List.replicate n 255)).2 = false := by
 have h1 := head_not (s := ⟨List.replicate n 255, 0, 0, 0, false, 0⟩) (a := 0) (P := []) (X := List.replicate n 255) (Q := []) rfl (by simp) (by simp) (by simpa using h) (.inl (by obtain ⟨m, rfl⟩ : ∃ m, n = m + 1 := ⟨n - 1, by omega⟩; exact rep_head m))
 have h2 := head_of (s := ⟨List.replicate n 255, 0, 0, 0, false, 0⟩) (a := 0) (O := List.replicate n 255) rfl (by simp)
 rw [h2] at h1
 exact h1.1
theorem NM.new {c k : Nat} (hk : 0 < k) (hbig : 64 ≤ c * k) : ∃ s, (FlS.new (2 * c) k).bgn 0 c 1 [] = (0, s) ∧ (FlS.new (2 * c) k).opn c = (0, s) ∧ NM s c k 1 [] := by
 have hl : (FlS.new (2 * c) k).l = [] ++ (List.replicate (c * k) 255 ++ List.replicate (c * k) 255) := by
  show List.replicate (2 * c * k) 255 = _
  rw [List.nil_append, List.replicate_append_replicate]
  congr 1
  rw [Nat.mul_assoc]; omega
 obtain ⟨s, e, b, k1, a1⟩ := bgn_bi (s := FlS.new (2 * c) k) (a := 0) (c := c) (P := []) rfl hk hl (by simp) (by simp; rfl) hbig rfl 1 [] (by simp) (Nat.zero_le _)
 have hh0 : ((FlS.new (2 * c) k).head 0).2.1 = false := (head_not (a := 0) (P := []) (X := List.replicate (c * k) 255) (Q := List.replicate (c * k) 255) rfl hl (by simp) (by simp; omega) (.inl (by obtain ⟨m, hm⟩ : ∃ m, c * k = m + 1 := ⟨c * k - 1, by omega⟩; rw [hm]; exact rep_head m))).1
 have hhc : ((FlS.new (2 * c) k).head c).2.1 = false := (head_not (a := c) (P := List.replicate (c * k) 255) (X := List.replicate (c * k) 255) (Q := []) rfl (by rw [hl]; simp) (by simp; rfl) (by simp; omega) (.inl (by obtain ⟨m, hm⟩ : ∃ m, c * k = m + 1 := ⟨c * k - 1, by omega⟩; rw [hm]; exact rep_head m))).1
 have hc : ((FlS.new (2 * c) k).cnt c).2.2 = false := by
  unfold FlS.cnt
  rw [if_neg (fun q => by rw [hhc] at q; cases q.1)]
  exact hh0
 have hM : NM s c k 1 [] := by
  refine ⟨0, 1, [], c * k - 16, List.replicate (c * k) 255, ⟨?_, k1, a1, .inl rfl, by simp, by decide, .inl (headO_ff _ (by omega)), hbig⟩, by decide, rfl, List.nodup_nil, by simp⟩
  rw [Nat.zero_mul]
  exact b
 refine ⟨s, e, ?_, hM⟩
 unfold FlS.opn
 rw [if_neg (by simp [FlS.new]), if_pos hc, e, if_pos rfl, hM.tidy]
theorem NM.look {s : FlS} {c k : Nat} {G : Int} {M : List RK} (h : NM s c k G M) : ∃ (i : Nat) (l : List Rc) (e : Nat), (i = 0 ∨ i = 1) ∧ (s.cnt c).1 = i ∧ s.scan (i * c) c = (l, e, true) ∧
    (∀ key : List UInt8, (∀ r ∈ M, r.key ≠ key) → lastK (l.map rkOf) key < 0) ∧
    (∀ r ∈ M, ∃ (j : Nat) (d : Rc), l[j]? = some d ∧ lastK (l.map rkOf) r.key = (j : Int) ∧ d.val = r.val) := by
 obtain ⟨i, g, l, m, O, hn, hgG, hM, hN, hK⟩ := h
 refine ⟨i, l, _, hn.hi, by rw [hn.cnt], hn.bi.scan, fun key hk => ?_, fun r hr => ?_⟩
 ·have hlt := lastI_lt (l.map rkOf) key (l.map rkOf).length
  refine Int.not_le.1 fun h0 => ?_
  obtain ⟨j, hj⟩ : ∃ j : Nat, lastK (l.map rkOf) key = (j : Int) := ⟨(lastK (l.map rkOf) key).toNat, by omega⟩
  obtain ⟨j1, j2, j3⟩ := lastI_some _ _ _ _ hj
  have hg : (l.map rkOf).getD j rk0 = (l.map rkOf)[j] := by rw [List.getD_eq_getElem?_getD, List.getElem?_eq_getElem j1]; rfl
  rw [hg] at j2 j3
  refine hk (l.map rkOf)[j] ?_ j3
  rw [← hM]
  exact List.mem_filter.2 ⟨List.getElem_mem _, j2⟩
 ·rw [← hM] at hr
  obtain ⟨h1, h2⟩ := List.mem_filter.1 hr
  obtain ⟨j, hj, hjr⟩ := List.getElem_of_mem h1
  have hj' : j < l.length := by rw [List.length_map] at hj; exact hj
  have hkb := keepB_lv hN hj
  rw [hjr, h2] at hkb
  unfold keepB at hkb
  rw [List.getD_eq_getElem?_getD, List.getElem?_eq_getElem hj, decide_eq_true_iff, Option.getD_some, hjr] at hkb
  refine ⟨j, l[j], List.getElem?_eq_getElem hj', hkb, ?_⟩
  rw [← hjr, List.getElem_map]
  rfl
end Go.Proofs.YtmjpbmcbcppkfaaGreatDoor
namespace Go.Proofs.YtmjpbmcbcppkfaaGreatDoor
set_option linter.unusedVariables false
set_option linter.unusedSimpArgs false
theorem kept_look {l : List RK} {r : RK} (hr : r ∈ keptK l) : ∃ j : Nat, j < l.length ∧ l.getD j rk0 = r ∧ lastK l r.key = (j : Int) := by
 unfold keptK at hr
 obtain ⟨j, hj, rfl⟩ := List.mem_map.1 hr
 obtain ⟨h1, h2⟩ := List.mem_filter.1 hj
 exact ⟨j, List.mem_range.1 h1, rfl, of_decide_eq_true h2⟩
theorem kept_none {l : List RK} {key : List UInt8} (h : ∀ r ∈ keptK l, r.key ≠ key) : lastK l key < 0 := by
 refine Int.not_le.1 fun h0 => ?_
 obtain ⟨j, hj⟩ : ∃ j : Nat, lastK l key = (j : Int) := ⟨(lastK l key).toNat, by omega⟩
 obtain ⟨j1, j2, j3⟩ := lastI_some _ _ _ _ hj
 refine h (l.getD j rk0) (List.mem_map.2 ⟨j, List.mem_filter.2 ⟨List.mem_range.2 j1, ?_⟩, rfl⟩) j3
 unfold keepB
 rw [j3, hj]
 simp
structure LK (s : FlS) (c : Nat) (M : List RK) : Prop where
 live : s.dd = false
 kept : ∃ (i : Nat) (l : List Rc) (e : Nat) (b : Bool), (i = 0 ∨ i = 1) ∧ (s.cnt c).1 = i ∧ s.scan (i * c) c = (l, e, b) ∧ keptK (l.map rkOf) = M
theorem LK.look {s : FlS} {c : Nat} {M : List RK} (h : LK s c M) : ∃ (i : Nat) (l : List Rc) (e : Nat) (b : Bool), (i = 0 ∨ i = 1) ∧ (s.cnt c).1 = i ∧ s.scan (i * c) c = (l, e, b) ∧
    (∀ key : List UInt8, (∀ r ∈ M, r.key ≠ key) → lastK (l.map rkOf) key < 0) ∧
    (∀ r ∈ M, ∃ (j : Nat) (d : Rc), l[j]? = some d ∧ lastK (l.map rkOf) r.key = (j : Int) ∧ d.val = r.val) := by
 obtain ⟨i, l, e, b, hi, hc, hS, hk⟩ := h.kept
 refine ⟨i, l, e, b, hi, hc, hS, fun key hx => kept_none (by rw [hk]; exact hx), fun r hr => ?_⟩
 rw [← hk] at hr
 obtain ⟨j, h1, h2, h3⟩ := kept_look hr
 have hj : j < l.length := by rw [List.length_map] at h1; exact h1
 refine ⟨j, l[j], List.getElem?_eq_getElem hj, h3, ?_⟩
 rw [← h2, List.getD_eq_getElem?_getD, List.getElem?_map, List.getElem?_eq_getElem hj]
 rfl
theorem NM.lk {s : FlS} {c k : Nat} {G : Int} {M : List RK} (h : NM s c k G M) : LK s c M := by
 have hl := h.live
 obtain ⟨i, g, l, m, O, hn, hgG, hM, hN, hK⟩ := h
 refine ⟨hl, i, l, _, true, hn.hi, by rw [hn.cnt], hn.bi.scan, ?_⟩
 unfold keptK
 rw [kept_liv hN _ (Nat.le_refl _), List.take_length, hM]
end Go.Proofs.YtmjpbmcbcppkfaaGreatDoor
namespace Go.Proofs.YtmjpbmcbcppkfaaGreatDoor
set_option linter.unusedVariables false
set_option linter.unusedSimpArgs false
/-! the order of bytes -/
def ltB (a b : List UInt8) : Bool := Op.bytesLess a b
theorem ltB_cons (x y : UInt8) (a b : List UInt8) : ltB (x :: a) (y :: b) = (decide (x < y) || (x == y && ltB a b)) := rfl
theorem ltB_irr : ∀ a : List UInt8, ltB a a = false
 | [] => rfl
 | x :: a => by rw [ltB_cons, ltB_irr a]; simp
theorem ltB_trans : ∀ {a b c : List UInt8}, ltB a b = true → ltB b c = true → ltB a c = true
 | a, [], c, h, _ => by cases a <;> cases h
 | a, y :: b, [], _, h => by cases h
 | [], y :: b, z :: c, _, _ => rfl
 | x :: a, y :: b, z :: c, h1, h2 => by
  rw [ltB_cons, Bool.or_eq_true, Bool.and_eq_true, decide_eq_true_eq, beq_iff_eq] at h1 h2 ⊢
  rcases h1 with h1 | ⟨rfl, h1⟩
  ·rcases h2 with h2 | ⟨rfl, h2⟩
   ·exact .inl (UInt8.lt_trans h1 h2)
   ·exact .inl h1
  ·rcases h2 with h2 | ⟨rfl, h2⟩
   ·exact .inl h2
   ·exact .inr ⟨rfl, ltB_trans h1 h2⟩
theorem ltB_tri : ∀ (a b : List UInt8), ltB a b = false → ltB b a = false → a = b
 | [], [], _, _ => rfl
 | [], _ :: _, h, _ => by cases h
 | _ :: _, [], _, h => by cases h
 | x :: a, y :: b, h1, h2 => by
  rw [ltB_cons] at h1 h2
  simp only [Bool.or_eq_false_iff, Bool.and_eq_false_iff, decide_eq_false_iff_not, beq_eq_false_iff_ne, ne_eq] at h1 h2
  have hxy : x = y := by
   by_cases q : x = y
   ·exact q
   ·rcases UInt8.lt_or_lt_of_ne q with q | q
    ·exact absurd q h1.1
    ·exact absurd q h2.1
  subst hxy
  have e := ltB_tri a b (by rcases h1.2 with q | q; exact absurd rfl q; exact q) (by rcases h2.2 with q | q; exact absurd rfl q; exact q)
  rw [e]
theorem ltB_asym {a b : List UInt8} (h : ltB a b = true) : ltB b a = false := by
 cases q : ltB b a with
 | false => rfl
 | true => have := ltB_trans h q; rw [ltB_irr] at this; cases this
/-! records, rising by their keys -/
def SortK (R : List RK) : Prop := R.Pairwise fun x y => ltB x.key y.key = true
structure RM (M R : List RK) : Prop where
 perm : R.Perm M
 sort : SortK R
theorem usedK_perm {a b : List RK} (h : a.Perm b) : usedK a = usedK b := by
 induction h with
 | nil => rfl
 | cons x _ ih => simp only [usedK, ih]
 | swap x y l => simp only [usedK]; omega
 | trans _ _ ih1 ih2 => rw [ih1, ih2]
theorem RM.used {M R : List RK} (h : RM M R) : usedK R = usedK M := usedK_perm h.perm
theorem RM.nil : RM [] [] := ⟨List.Perm.nil, List.Pairwise.nil⟩
def delR (R : List RK) (key : List UInt8) : List RK := R.filter fun r => r.key != key
theorem RM.del {M R : List RK} (h : RM M R) (key : List UInt8) : RM (M.filter fun r => r.key != key) (delR R key) := ⟨h.perm.filter _, h.sort.sublist List.filter_sublist⟩
def insR (R : List RK) (x : RK) : List RK := R.takeWhile (fun r => ltB r.key x.key) ++ x :: R.dropWhile (fun r => ltB r.key x.key)
theorem insR_perm (R : List RK) (x : RK) : (insR R x).Perm (R ++ [x]) := by
 unfold insR
 have h : (R.takeWhile (fun r => ltB r.key x.key) ++ R.dropWhile (fun r => ltB r.key x.key)) = R := List.takeWhile_append_dropWhile
 have h2 : (R.takeWhile (fun r => ltB r.key x.key) ++ x :: R.dropWhile (fun r => ltB r.key x.key)).Perm (x :: (R.takeWhile (fun r => ltB r.key x.key) ++ R.dropWhile (fun r => ltB r.key x.key))) := List.perm_middle
 rw [h] at h2
 exact h2.trans (List.perm_append_comm (l₁ := [x]) (l₂ := R))
theorem insR_sort : ∀ {R : List RK} {x : RK}, SortK R → (∀ r ∈ R, r.key ≠ x.key) → SortK (insR R x)
 | [], x, _, _ => List.pairwise_singleton _ _
 | r :: R, x, h, hne => by
  unfold SortK at h ⊢
  rw [List.pairwise_cons] at h
  unfold insR
  cases q : ltB r.key x.key with
  | true =>
   rw [List.takeWhile_cons_of_pos (p := fun r : RK => ltB r.key x.key) q, List.dropWhile_cons_of_pos (p := fun r : RK => ltB r.key x.key) q, List.cons_append, List.pairwise_cons]
   refine ⟨fun y hy => ?_, insR_sort (R := R) h.2 fun z hz => hne z (List.mem_cons_of_mem _ hz)⟩
   have hm := (insR_perm R x).mem_iff.1 hy
   rcases List.mem_append.1 hm with hm | hm
   ·exact h.1 y hm
   ·rw [List.mem_singleton] at hm; subst hm; exact q
  | false =>
   rw [List.takeWhile_cons_of_neg (p := fun r : RK => ltB r.key x.key) (by simp [q]), List.dropWhile_cons_of_neg (p := fun r : RK => ltB r.key x.key) (by simp [q]), List.nil_append, List.pairwise_cons, List.pairwise_cons]
   have hx : ltB x.key r.key = true := by
    cases q2 : ltB x.key r.key with
    | true => rfl
    | false => exact absurd (ltB_tri _ _ q q2) (hne r (List.mem_cons_self ..))
   refine ⟨fun y hy => ?_, h.1, h.2⟩
   rcases List.mem_cons.1 hy with rfl | hy
   ·exact hx
   ·exact ltB_trans hx (h.1 y hy)
def setR (R : List RK) (key val : List UInt8) : List RK := insR (delR R key) ⟨key, val, true⟩
theorem RM.set {M R : List RK} (h : RM M R) (key val : List UInt8) : RM (setM M key val) (setR R key val) := by
 have hd := h.del key
 refine ⟨(insR_perm _ _).trans (hd.perm.append_right _), insR_sort hd.sort fun r hr => ?_⟩
 have := (List.mem_filter.1 hr).2
 simpa using this
theorem RM.keys {M R : List RK} (h : RM M R) : (M.map fun r => r.key).mergeSort (fun x y => !ltB y x) = R.map fun r => r.key := by
 have htr : ∀ (a b c : List UInt8), (!ltB b a) = true → (!ltB c b) = true → (!ltB c a) = true := by
  intro a b c h1 h2
  simp only [Bool.not_eq_true'] at h1 h2 ⊢
  cases q : ltB c a with
  | false => rfl
  | true =>
   cases q1 : ltB a b with
   | true => have := ltB_trans q q1; rw [this] at h2; cases h2
   | false =>
    have := ltB_tri a b q1 h1
    subst this
    rw [q] at h2; cases h2
 have htot : ∀ (a b : List UInt8), ((!ltB b a) || (!ltB a b)) = true := by
  intro a b
  cases q : ltB b a with
  | false => rfl
  | true => rw [ltB_asym q]; rfl
 have hs : (R.map fun r => r.key).Pairwise fun x y => (!ltB y x) = true := by
  rw [List.pairwise_map]
  exact h.sort.imp fun {a b} q => by rw [ltB_asym q]; rfl
 have e := List.mergeSort_of_pairwise hs
 have hp : (M.map fun r => r.key).Perm (R.map fun r => r.key) := (h.perm.map _).symm
 have s1 := List.pairwise_mergeSort htr htot (M.map fun r => r.key)
 refine List.Perm.eq_of_pairwise (le := fun x y => (!ltB y x) = true) (fun a b _ _ h1 h2 => ?_) s1 hs ((List.mergeSort_perm _ _).trans hp)
 simp only [Bool.not_eq_true'] at h1 h2
 exact (ltB_tri a b h2 h1)
theorem NM.del {s : FlS} {c k : Nat} {G : Int} {M : List RK} (h : NM s c k G M) (key : List UInt8) :
    ((∀ r ∈ M, r.key ≠ key) → s.del c key = (3, s)) ∧ ((∃ r ∈ M, r.key = key) → ∃ s', s.del c key = (0, s') ∧ NM s' c k G (M.filter fun r => r.key != key)) := by
 have hl := h.look
 obtain ⟨i, g, l, m, O, hn, hgG, hM, hN, hK⟩ := h
 have hdel : s.del c key = if lastK (l.map rkOf) key < 0 then (3, s) else s.kill (i * c) c (lastK (l.map rkOf) key) := by
  unfold FlS.del
  rw [hn.bi.dd, hn.recK, hn.cnt, if_neg (by simp)]
 obtain ⟨i', l', e', hi', hci', hS', hno, hyes⟩ := hl
 have ei : i' = i := by rw [← hci', hn.cnt]
 subst ei
 have el : l' = l := by
  have := hn.bi.scan
  rw [hS'] at this
  exact (Prod.mk.inj this).1
 subst el
 rw [hdel]
 constructor
 ·intro hk
  rw [if_pos (hno key hk)]
 ·rintro ⟨r, hr, rfl⟩
  obtain ⟨j, d, hj, hlk, hv⟩ := hyes r hr
  rw [hlk, if_neg (by omega)]
  obtain ⟨j1, j2, j3⟩ := lastI_some _ _ _ _ hlk
  obtain ⟨hjl, rfl⟩ := List.getElem?_eq_some_iff.1 hj
  obtain ⟨l1, x, l2, hl, hl1⟩ : ∃ l1 d l2, l' = l1 ++ d :: l2 ∧ l1.length = j := ⟨l'.take j, l'[j], l'.drop (j + 1), by rw [List.getElem_cons_drop, List.take_append_drop], by rw [List.length_take]; omega⟩
  subst hl
  subst hl1
  have hx : ((l1 ++ x :: l2).map rkOf).getD l1.length rk0 = rkOf x := by
   rw [List.getD_eq_getElem?_getD, List.getElem?_map, List.getElem?_append_right (Nat.le_refl _), Nat.sub_self]; rfl
  rw [hx] at j2 j3
  have hb := hn.bi
  obtain ⟨s2, e2, b2, k2, a2⟩ := hb.kill_all (by have := hn.har; omega)
  refine ⟨s2, e2, i', g, _, m, O, ⟨b2, by rw [k2, hn.hk], by rw [a2, hn.har]; rfl, hn.hi, hn.hO, hn.hg, hn.oth, hn.big⟩, hgG, ?_, ?_, ?_⟩
  ·rw [← hM, List.map_append, List.map_cons]
   rw [List.map_append, List.map_cons] at hN
   have := liv_kill j2 hN
   rw [← j3, List.map_append, List.map_cons, ← this]
   rfl
  ·unfold NodK at hN ⊢
   rw [List.map_append, List.map_cons] at hN ⊢
   have := liv_kill j2 hN
   rw [show rkOf x.die = ⟨(rkOf x).key, (rkOf x).val, false⟩ from rfl, this]
   exact hN.sublist (List.Sublist.map _ List.filter_sublist)
  ·intro y hy
   exact hK y (List.mem_filter.1 hy).1
end Go.Proofs.YtmjpbmcbcppkfaaGreatDoor
