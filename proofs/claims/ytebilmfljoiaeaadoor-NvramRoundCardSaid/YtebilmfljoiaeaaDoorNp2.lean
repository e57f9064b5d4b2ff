/- A store without losses of power: the plain law. Conditions: the premises of each law. -/
import Derived.Test.YtebilmfljoiaeaaDoorNv10
namespace Go.Proofs.YtebilmfljoiaeaaDoor
set_option linter.unusedVariables false
set_option linter.unusedSimpArgs false
/-- what the head of these bytes tells -/
def headO (O : List UInt8) : Int × Bool := if (O.take 16).take 12 = headB (numB (((O.take 16).drop 4).take 4)) then ((numB (((O.take 16).drop 4).take 4) : Int), decide ((((O.take 16).getD 12 0).toNat : Int) = 254)) else (0, false)
theorem head_of {s : FlS} {a : Nat} {O : List UInt8} (hd : s.dd = false) (h : (s.l.drop (a * s.k)).take 16 = O.take 16) : s.head a = ((headO O).1, (headO O).2, 0) := by
  unfold FlS.head headO
  rw [hd, h, if_neg (by simp)]
  split <;> rfl
/-- a store: its bank i counts, of that generation; O: the other bank's bytes -/
structure NG (s : FlS) (c k i : Nat) (g : Int) (l : List Rc) (m : Nat) (O : List UInt8) : Prop where
  bi : BI s (i * c) c (if i = 0 then [] else O) (headR g) l m (if i = 0 then O else [])
  hk : s.k = k
  har : s.ar = 0
  hi : i = 0 ∨ i = 1
  hO : O.length = c * k
  hg : 0 ≤ g ∧ g ≤ 4294967295
  oth : (headO O).2 = false ∨ (headO O).1 < g
  big : 64 ≤ c * k
theorem put_eq' {s : FlS} {c i a : Nat} {g : Int} {r : Bool} (hc : s.cnt c = (i, g, r)) (ha : i * c = a) {l : List Rc} {e : Nat} {b : Bool} (hS : s.scan a c = (l, e, b)) {key val : List UInt8} : s.put c key val = if (s.add a c key val).1 = 0 then (if 0 ≤ lastK (l.map rkOf) key then (s.add a c key val).2.kill a c (lastK (l.map rkOf) key) else (0, (s.add a c key val).2)) else s.add a c key val := by
  unfold FlS.put FlS.recK FlS.recs
  rw [hc, ha, hS]
section
variable {s : FlS} {c k i : Nat} {g : Int} {l : List Rc} {m : Nat} {O : List UInt8}
theorem NG.cnt (h : NG s c k i g l m O) : s.cnt c = (i, g, true) := by
  have hH := headR_len g
  have him := h.bi.img
  have hn := h.bi.n
  have hk := h.hk
  have hO := h.hO
  have hb := h.big
  have hd := h.bi.dd
  rcases h.hi with rfl | rfl
  · simp only [if_true] at him
    have h0 : s.head 0 = (g, true, 0) := head_is (a := 0) (P := []) (Q := encL l ++ (List.replicate m 255 ++ O)) hd him (by simp) h.hg
    have h1 : s.head c = ((headO O).1, (headO O).2, 0) := head_of hd (by
      rw [him, hk]
      have e : (headR g ++ (encL l ++ (List.replicate m 255 ++ O))) = (headR g ++ (encL l ++ List.replicate m 255)) ++ O := by simp
      rw [List.nil_append, e, List.drop_left' (by simp only [List.length_append, List.length_replicate, hH]; rw [hk] at hn; omega)])
    unfold FlS.cnt
    rw [h0, h1, if_neg]
    intro q
    rcases h.oth with o | o
    · rw [o] at q; cases q.1
    · rcases q.2 with q | q
      · cases q
      · simp only at q; omega
  · simp only [if_neg (by decide : ¬ (1 : Nat) = 0)] at him
    have h1 : s.head c = (g, true, 0) := head_is (a := c) (P := O) (Q := encL l ++ (List.replicate m 255 ++ [])) hd him (by rw [hO, hk]) h.hg
    have h0 : s.head 0 = ((headO O).1, (headO O).2, 0) := head_of hd (by
      rw [Nat.zero_mul, List.drop_zero, him, List.take_append_of_le_length (by omega)])
    unfold FlS.cnt
    rw [h0, h1, if_pos]
    refine ⟨rfl, ?_⟩
    rcases h.oth with o | o
    · exact .inl o
    · exact .inr o
theorem NG.recs (h : NG s c k i g l m O) : s.recs c = (l, 16 + (encL l).length, true) := by
  unfold FlS.recs
  rw [h.cnt]
  exact h.bi.scan
theorem NG.recK (h : NG s c k i g l m O) : s.recK c = l.map rkOf := by
  unfold FlS.recK
  rw [h.recs]
/-- the records behind a kill at place L, if there is one -/
def killR (l : List Rc) (L : Int) : List Rc := if 0 ≤ L then l.set L.toNat (l.getD L.toNat ⟨[], [], false, 0⟩).die else l
theorem NG.put (h : NG s c k i g l m O) {key val : List UInt8} (hk : 1 ≤ key.length ∧ key.length ≤ 255) (hv : val.length ≤ 65536) (hm : 12 + key.length + val.length ≤ m) :
    ∃ s' d, s.put c key val = (0, s') ∧ d = ⟨key, val, true, 16 + (encL l).length⟩ ∧ NG s' c k i g (killR l (lastK (l.map rkOf) key) ++ [d]) (m - (12 + key.length + val.length)) O := by
  obtain ⟨s1, e1, b1, k1, a1⟩ := h.bi.add_all (d := ⟨key, val, true, 16 + (encL l).length⟩) ⟨hk, hv⟩ rfl rfl hm (by have := h.har; omega)
  have ha1 : s1.ar = 0 := by rw [a1, h.har]; rfl
  have hlt := lastI_lt (l.map rkOf) key (l.map rkOf).length
  rw [List.length_map] at hlt
  have hL : lastK (l.map rkOf) key = lastI (l.map rkOf) key l.length := by unfold lastK; rw [List.length_map]
  rw [← hL] at hlt
  rw [put_eq' h.cnt rfl h.bi.scan, e1, if_pos rfl]
  generalize lastK (l.map rkOf) key = L at hlt
  by_cases h0 : 0 ≤ L
  · obtain ⟨j, rfl⟩ : ∃ j : Nat, L = (j : Int) := ⟨L.toNat, by omega⟩
    have hj : j < l.length := by omega
    obtain ⟨l1, x, l2, rfl, rfl⟩ : ∃ l1 d l2, l = l1 ++ d :: l2 ∧ l1.length = j := ⟨l.take j, l[j], l.drop (j + 1), by rw [List.getElem_cons_drop, List.take_append_drop], by rw [List.length_take]; omega⟩
    rw [List.append_assoc, List.cons_append] at b1
    obtain ⟨s2, e2, b2, k2, a2⟩ := b1.kill_all (by omega)
    rw [if_pos h0, e2]
    have hKR : killR (l1 ++ x :: l2) (l1.length : Int) = l1 ++ x.die :: l2 := by
      unfold killR
      rw [if_pos h0, Int.toNat_natCast, List.set_append_right _ _ (Nat.le_refl _), Nat.sub_self, List.set_cons_zero, List.getD_eq_getElem?_getD, List.getElem?_append_right (Nat.le_refl _), Nat.sub_self]
      rfl
    rw [hKR]
    exact ⟨s2, _, rfl, rfl, ⟨by rw [List.append_assoc]; exact b2, by rw [k2, k1, h.hk], by rw [a2, ha1]; rfl, h.hi, h.hO, h.hg, h.oth, h.big⟩⟩
  · rw [if_neg h0]
    have hKR : killR l L = l := by unfold killR; rw [if_neg h0]
    rw [hKR]
    exact ⟨s1, _, rfl, rfl, ⟨b1, by rw [k1, h.hk], ha1, h.hi, h.hO, h.hg, h.oth, h.big⟩⟩
end
/-- records that are laid one behind the other -/
def placeK : Nat → List RK → List Rc
  | _, [] => []
  | a, r :: l => ⟨r.key, r.val, true, a⟩ :: placeK (a + (12 + r.key.length + r.val.length)) l
theorem placeK_rk : ∀ (K : List RK) (a : Nat), (∀ r ∈ K, r.lv = true) → (placeK a K).map rkOf = K
  | [], a, _ => rfl
  | r :: K, a, h => by
    rw [placeK, List.map_cons, placeK_rk K _ fun x hx => h x (List.mem_cons_of_mem _ hx)]
    have := h r (List.mem_cons_self ..)
    obtain ⟨x, y, z⟩ := r
    simp only at this
    subst this
    rfl
def OkK (r : RK) : Prop := (1 ≤ r.key.length ∧ r.key.length ≤ 255) ∧ r.val.length ≤ 65536
theorem BI.adds {a c : Nat} {P H Q : List UInt8} : ∀ (K : List RK) {s : FlS} {l : List Rc} {m : Nat}, BI s a c P H l m Q → s.ar = 0 → (∀ r ∈ K, OkK r) → usedK K ≤ m →
    ∃ s', s.adds a c K = (0, s') ∧ BI s' a c P H (l ++ placeK (16 + (encL l).length) K) (m - usedK K) Q ∧ s'.k = s.k ∧ s'.ar = 0
  | [], s, l, m, h, ha, _, _ => ⟨s, rfl, by rw [placeK, List.append_nil]; exact h, rfl, ha⟩
  | r :: K, s, l, m, h, ha, hK, hm => by
    have hr := hK r (List.mem_cons_self ..)
    simp only [usedK] at hm
    obtain ⟨s1, e1, b1, k1, a1⟩ := h.add_all (d := ⟨r.key, r.val, true, 16 + (encL l).length⟩) ⟨hr.1, hr.2⟩ rfl rfl (by show 12 + r.key.length + r.val.length ≤ m; omega) (by omega)
    have ha1 : s1.ar = 0 := by rw [a1, ha]; rfl
    obtain ⟨s2, e2, b2, k2, a2⟩ := BI.adds K b1 ha1 (fun x hx => hK x (List.mem_cons_of_mem _ hx)) (by show usedK K ≤ m - (12 + r.key.length + r.val.length); omega)
    refine ⟨s2, ?_, ?_, by rw [k2, k1], a2⟩
    · show (if (s.add a c r.key r.val).1 = 0 then (s.add a c r.key r.val).2.adds a c K else s.add a c r.key r.val) = (0, s2)
      have e1' : s.add a c r.key r.val = (0, s1) := e1
      rw [e1', if_pos rfl, e2]
    · have el : (encL (l ++ [(⟨r.key, r.val, true, 16 + (encL l).length⟩ : Rc)])).length = (encL l).length + (12 + r.key.length + r.val.length) := by
        rw [encL_append, List.length_append]
        show (encL l).length + (encL [(⟨r.key, r.val, true, 16 + (encL l).length⟩ : Rc)]).length = _
        simp only [encL, List.flatMap_cons, List.flatMap_nil, List.append_nil, encR_len]
        rfl
      rw [List.append_assoc, el] at b2
      have ep : placeK (16 + (encL l).length) (r :: K) = ⟨r.key, r.val, true, 16 + (encL l).length⟩ :: placeK (16 + ((encL l).length + (12 + r.key.length + r.val.length))) K := by
        rw [placeK, Nat.add_assoc]
      have em : m - usedK (r :: K) = m - lenR ⟨r.key, r.val, true, 16 + (encL l).length⟩ - usedK K := by
        unfold lenR; simp only [usedK]; omega
      rw [ep, em]
      exact b2
theorem format_bi {s : FlS} {a c : Nat} {P X Q : List UInt8} (hd : s.dd = false) (hk : 0 < s.k) (hl : s.l = P ++ (X ++ Q)) (hP : P.length = a * s.k) (hX : X.length = c * s.k) (h64 : 64 ≤ c * s.k) (har : s.ar = 0) (g : Int) :
    ∃ s1, s.format a c g = (0, s1) ∧ BI s1 a c P (headB g ++ [255, 255, 255, 255]) [] (c * s.k - 16) Q ∧ s1.k = s.k ∧ s1.ar = 0 := by
  refine ⟨_, format_all (g := g) hd hk hl hP hX (by omega) (by omega), ⟨?_, hP, by simp [headB_len], ?_, trivial, rfl⟩, rfl, ?_⟩
  · show P ++ (headB g ++ (List.replicate (c * s.k - 12) 255 ++ Q)) = _
    rw [rep_split (by omega : 4 ≤ c * s.k - 12), show c * s.k - 12 - 4 = c * s.k - 16 by omega]
    simp [encL, List.replicate_succ]
  · show 16 + (encL []).length + (c * s.k - 16) = c * s.k
    simp only [encL, List.flatMap_nil, List.length_nil]; omega
  · show (if 0 < s.ar then s.ar - (c + 12) else s.ar) = 0
    rw [har]; rfl
theorem ready_bi {s : FlS} {a c : Nat} {P Q : List UInt8} {l : List Rc} {m : Nat} {g : Int} (h : BI s a c P (headB g ++ [255, 255, 255, 255]) l m Q) (har : s.ar = 0) :
    ∃ s', s.prog ((a : Int) * (s.k : Int) + 12) [254] = (0, s') ∧ BI s' a c P (headR g) l m Q ∧ s'.k = s.k ∧ s'.ar = 0 := by
  have hB := headB_len g
  rw [prog_all (m := [254]) (p := P ++ headB g) (q := [255]) (r := [255, 255, 255] ++ (encL l ++ (List.replicate m 255 ++ Q))) h.dd (by simp only [List.length_append, h.P, hB, Int.natCast_add, Int.natCast_mul]; rfl) rfl (by rw [h.img]; simp) (by omega)]
  refine ⟨_, rfl, ⟨?_, h.P, headR_len g, h.n, h.pl, rfl⟩, rfl, ?_⟩
  · show P ++ headB g ++ ([255 &&& 254] ++ ([255, 255, 255] ++ (encL l ++ (List.replicate m 255 ++ Q)))) = _
    rw [ff_and]
    simp [headR]
  · show (if 0 < s.ar then s.ar - (([254] : List UInt8).length : Int) else s.ar) = 0
    rw [har]; rfl
theorem bgn_bi {s : FlS} {a c : Nat} {P X Q : List UInt8} (hd : s.dd = false) (hk : 0 < s.k) (hl : s.l = P ++ (X ++ Q)) (hP : P.length = a * s.k) (hX : X.length = c * s.k) (h64 : 64 ≤ c * s.k) (har : s.ar = 0) (g : Int) (K : List RK) (hK : ∀ r ∈ K, OkK r) (hm : usedK K ≤ c * s.k - 16) :
    ∃ s', s.bgn a c g K = (0, s') ∧ BI s' a c P (headR g) (placeK 16 K) (c * s.k - 16 - usedK K) Q ∧ s'.k = s.k ∧ s'.ar = 0 := by
  obtain ⟨s1, e1, b1, k1, a1⟩ := format_bi hd hk hl hP hX h64 har g
  obtain ⟨s2, e2, b2, k2, a2⟩ := BI.adds K b1 a1 hK hm
  obtain ⟨s3, e3, b3, k3, a3⟩ := ready_bi b2 a2
  refine ⟨s3, ?_, ?_, by rw [k3, k2, k1], a3⟩
  · unfold FlS.bgn
    rw [e1, if_pos rfl, e2, if_pos rfl]
    exact e3
  · rw [List.nil_append] at b3
    exact b3
theorem headO_R (g : Int) (hg : 0 ≤ g ∧ g ≤ 4294967295) (r : List UInt8) : headO (headR g ++ r) = (g, true) := by
  have h := head_is (s := ⟨headR g ++ r, 0, 0, 0, false, 0⟩) (a := 0) (P := []) (Q := r) rfl rfl (by simp) hg
  have h2 := head_of (s := ⟨headR g ++ r, 0, 0, 0, false, 0⟩) (a := 0) (O := headR g ++ r) rfl (by simp)
  rw [h] at h2
  simp only [Prod.mk.injEq] at h2
  exact Prod.ext h2.1.symm h2.2.1.symm
theorem NG.copy {s : FlS} {c k i : Nat} {g : Int} {l : List Rc} {m : Nat} {O : List UInt8} (h : NG s c k i g l m O) (hk0 : 0 < k) (hg : g < 4294967295) (K : List RK) (hK : ∀ r ∈ K, OkK r) (hm : usedK K ≤ c * k - 16) :
    ∃ s' O', s.copy c K = (0, s') ∧ NG s' c k (1 - i) (g + 1) (placeK 16 K) (c * k - 16 - usedK K) O' := by
  have hn := h.bi.n
  have hH := headR_len g
  have hk := h.hk
  have him := h.bi.img
  have hO := h.hO
  have hg0 := h.hg
  have hbig := h.big
  rw [hk] at hn
  unfold FlS.copy
  rw [h.cnt]
  simp only
  rw [if_neg (by omega)]
  have hOl : (headR g ++ (encL l ++ List.replicate m 255)).length = c * k := by simp only [List.length_append, List.length_replicate, hH]; omega
  have hoo := headO_R g h.hg (encL l ++ List.replicate m 255)
  rcases h.hi with rfl | rfl
  · simp only [if_true] at him
    obtain ⟨s', e, b, k1, a1⟩ := bgn_bi (s := s) (a := c) (c := c) (P := headR g ++ (encL l ++ List.replicate m 255)) (X := O) (Q := []) h.bi.dd (by omega) (by rw [him]; simp) (by rw [hOl, hk]) (by rw [hO, hk]) (by rw [hk]; exact hbig) h.har (g + 1) K hK (by rw [hk]; exact hm)
    refine ⟨s', headR g ++ (encL l ++ List.replicate m 255), ?_, ⟨?_, by rw [k1, hk], a1, .inr rfl, hOl, by omega, .inr (by rw [hoo]; simp only; omega), hbig⟩⟩
    · rw [show (1 - 0) * c = c by omega]; exact e
    · rw [hk] at b
      simp only [show (1 - 0 : Nat) = 1 from rfl, Nat.one_mul]
      exact b
  · simp only [if_neg (by decide : ¬ (1 : Nat) = 0)] at him
    obtain ⟨s', e, b, k1, a1⟩ := bgn_bi (s := s) (a := 0) (c := c) (P := []) (X := O) (Q := headR g ++ (encL l ++ List.replicate m 255)) h.bi.dd (by omega) (by rw [him]; simp) (by simp) (by rw [hO, hk]) (by rw [hk]; exact hbig) h.har (g + 1) K hK (by rw [hk]; exact hm)
    refine ⟨s', headR g ++ (encL l ++ List.replicate m 255), ?_, ⟨?_, by rw [k1, hk], a1, .inl rfl, hOl, by omega, .inr (by rw [hoo]; simp only; omega), hbig⟩⟩
    · rw [show (1 - 1) * c = 0 by omega]; exact e
    · rw [hk] at b
      simp only [show (1 - 1 : Nat) = 0 from rfl, Nat.zero_mul]
      exact b
end Go.Proofs.YtebilmfljoiaeaaDoor
