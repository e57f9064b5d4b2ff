/- A store without losses of power is a map: the plain law. Conditions: the premises of each law. -/
import Derived.Test.YtebilmfljoiaeaaDoorNp2
namespace Go.Proofs.YtebilmfljoiaeaaDoor
set_option linter.unusedVariables false
set_option linter.unusedSimpArgs false
/-- the living records -/
def livK (l : List RK) : List RK := l.filter fun r => r.lv
def NodK (l : List RK) : Prop := ((livK l).map fun r => r.key).Nodup
theorem lastI_some (l : List RK) (key : List UInt8) : ∀ (n : Nat) (j : Nat), lastI l key n = (j : Int) → j < n ∧ (l.getD j rk0).lv = true ∧ (l.getD j rk0).key = key
  | 0, j, h => by simp only [lastI] at h; omega
  | n + 1, j, h => by
    rw [lastI] at h
    split at h
    · rename_i q
      obtain rfl : n = j := by omega
      exact ⟨Nat.lt_succ_self _, q.1, q.2⟩
    · obtain ⟨h1, h2⟩ := lastI_some l key n j h
      exact ⟨by omega, h2⟩
theorem lastI_none (l : List RK) (key : List UInt8) : ∀ (n : Nat), lastI l key n < 0 → ∀ i, i < n → ¬ ((l.getD i rk0).lv = true ∧ (l.getD i rk0).key = key)
  | 0, h, i, hi => absurd hi (Nat.not_lt_zero i)
  | n + 1, h, i, hi => by
    rw [lastI] at h
    split at h
    · omega
    · rename_i q
      rcases Nat.lt_or_eq_of_le (Nat.le_of_lt_succ hi) with h1 | h1
      · exact lastI_none l key n h i h1
      · rw [h1]; exact q
theorem livK_append (a b : List RK) : livK (a ++ b) = livK a ++ livK b := by simp [livK]
theorem liv_kill {l1 l2 : List RK} {x : RK} (hx : x.lv = true) (hN : NodK (l1 ++ x :: l2)) : livK (l1 ++ ⟨x.key, x.val, false⟩ :: l2) = (livK (l1 ++ x :: l2)).filter fun r => r.key != x.key := by
  have e : livK (l1 ++ x :: l2) = livK l1 ++ x :: livK l2 := by simp [livK, hx]
  have e2 : livK (l1 ++ ⟨x.key, x.val, false⟩ :: l2) = livK l1 ++ livK l2 := by simp [livK]
  unfold NodK at hN
  rw [e, List.map_append, List.map_cons, List.nodup_append, List.nodup_cons] at hN
  obtain ⟨h1, ⟨h2, h3⟩, h4⟩ := hN
  rw [e, e2, List.filter_append, List.filter_cons_of_neg (by simp)]
  congr 1
  · symm
    rw [List.filter_eq_self]
    intro r hr
    have := h4 r.key (List.mem_map.2 ⟨r, hr, rfl⟩) x.key (List.mem_cons_self ..)
    simpa using this
  · symm
    rw [List.filter_eq_self]
    intro r hr
    have : r.key ≠ x.key := fun q => h2 (by rw [← q]; exact List.mem_map.2 ⟨r, hr, rfl⟩)
    simpa using this
theorem liv_none {l : List RK} {key : List UInt8} (h : ∀ r ∈ l, ¬ (r.lv = true ∧ r.key = key)) : (livK l).filter (fun r => r.key != key) = livK l := by
  rw [List.filter_eq_self]
  intro r hr
  have hr' := List.mem_filter.1 hr
  have := h r hr'.1
  have h2 : r.key ≠ key := fun q => this ⟨hr'.2, q⟩
  simpa using h2
theorem nodK_put {M : List RK} {key val : List UInt8} (hN : (M.map fun r : RK => r.key).Nodup) : ((List.filter (fun r : RK => r.key != key) M ++ [(⟨key, val, true⟩ : RK)]).map fun r : RK => r.key).Nodup := by
  rw [List.map_append, List.nodup_append]
  refine ⟨?_, by simp, ?_⟩
  · exact hN.sublist (List.Sublist.map _ List.filter_sublist)
  · intro a ha b hb
    simp only [List.map_cons, List.map_nil, List.mem_singleton] at hb
    obtain ⟨r, hr, rfl⟩ := List.mem_map.1 ha
    have := (List.mem_filter.1 hr).2
    subst hb
    simpa using this
theorem keepB_lv {l : List RK} (hN : NodK l) {n : Nat} (hn : n < l.length) : keepB l n = l[n].lv := by
  have hg : l.getD n rk0 = l[n] := by rw [List.getD_eq_getElem?_getD, List.getElem?_eq_getElem hn]; rfl
  unfold keepB
  rw [hg]
  cases hv : l[n].lv with
  | true =>
    rw [decide_eq_true_iff]
    have hle : ∀ m : Nat, n < m → m ≤ l.length → lastI l l[n].key m = (n : Int) := by
      intro m
      induction m with
      | zero => intro h1; omega
      | succ m ihm =>
        intro h1 h2
        rw [lastI]
        by_cases hmn : m = n
        · subst hmn
          rw [hg, if_pos ⟨hv, rfl⟩]
        · have hm : m < l.length := by omega
          have hgm : l.getD m rk0 = l[m] := by rw [List.getD_eq_getElem?_getD, List.getElem?_eq_getElem hm]; rfl
          rw [hgm, if_neg, ihm (by omega) (by omega)]
          rintro ⟨q1, q2⟩
          have hs : l = l.take m ++ l[m] :: l.drop (m + 1) := by rw [List.getElem_cons_drop, List.take_append_drop]
          have e : livK l = livK (l.take m) ++ l[m] :: livK (l.drop (m + 1)) := by
            have e0 := congrArg livK hs
            rw [livK_append] at e0
            have e1 : livK (l[m] :: l.drop (m + 1)) = l[m] :: livK (l.drop (m + 1)) := List.filter_cons_of_pos q1
            rw [e1] at e0
            exact e0
          unfold NodK at hN
          rw [e, List.map_append, List.map_cons, List.nodup_append] at hN
          refine hN.2.2 l[n].key ?_ l[m].key (List.mem_cons_self ..) q2.symm
          refine List.mem_map.2 ⟨l[n], List.mem_filter.2 ⟨?_, hv⟩, rfl⟩
          exact List.mem_iff_getElem.2 ⟨n, by rw [List.length_take]; omega, by rw [List.getElem_take]⟩
    exact hle l.length hn (Nat.le_refl _)
  | false =>
    rw [decide_eq_false_iff_not]
    intro q
    have := (lastI_some l l[n].key l.length n q).2.1
    rw [hg, hv] at this
    cases this
/-- of records whose living ones have keys of their own the store has the living ones -/
theorem kept_liv {l : List RK} (hN : NodK l) : ∀ n : Nat, n ≤ l.length → ((keptI l n).map fun j => l.getD j rk0) = livK (l.take n)
  | 0, _ => by simp [keptI, livK]
  | n + 1, h => by
    have ih := kept_liv hN n (by omega)
    have hn : n < l.length := by omega
    have hg : l.getD n rk0 = l[n] := by rw [List.getD_eq_getElem?_getD, List.getElem?_eq_getElem hn]; rfl
    rw [keptI_succ, List.map_append, ih, List.take_succ_eq_append_getElem hn, livK_append]
    congr 1
    have key : keepB l n = l[n].lv := keepB_lv hN hn
    rw [key]
    cases hv : l[n].lv with
    | true =>
      rw [if_pos rfl, List.map_cons, List.map_nil, hg]
      simp [livK, hv]
    | false => simp [livK, hv]
theorem keptK_liv {l : List RK} (hN : NodK l) : keptK l = livK l := by
  have := kept_liv hN l.length (Nat.le_refl _)
  rw [List.take_length] at this
  exact this
/-- a store that is a map: these records live in it, each key once -/
def NM (s : FlS) (c k : Nat) (G : Int) (M : List RK) : Prop := ∃ i g l m O, NG s c k i g l m O ∧ g ≤ G ∧ livK (l.map rkOf) = M ∧ NodK (l.map rkOf) ∧ (∀ r ∈ M, OkK r)
def setM (M : List RK) (key val : List UInt8) : List RK := M.filter (fun r => r.key != key) ++ [⟨key, val, true⟩]
theorem put_liv {l : List Rc} {key val : List UInt8} {p : Nat} (hN : NodK (l.map rkOf)) : livK ((killR l (lastK (l.map rkOf) key) ++ [(⟨key, val, true, p⟩ : Rc)]).map rkOf) = setM (livK (l.map rkOf)) key val := by
  rw [List.map_append, livK_append]
  unfold setM
  congr 1
  have hlt := lastI_lt (l.map rkOf) key (l.map rkOf).length
  rw [List.length_map] at hlt
  have hL : lastK (l.map rkOf) key = lastI (l.map rkOf) key l.length := by unfold lastK; rw [List.length_map]
  rw [hL]
  by_cases h0 : 0 ≤ lastI (l.map rkOf) key l.length
  · obtain ⟨j, hj⟩ : ∃ j : Nat, lastI (l.map rkOf) key l.length = (j : Int) := ⟨(lastI (l.map rkOf) key l.length).toNat, by omega⟩
    obtain ⟨j1, j2, j3⟩ := lastI_some _ _ _ _ hj
    rw [hj]
    obtain ⟨l1, x, l2, rfl, rfl⟩ : ∃ l1 d l2, l = l1 ++ d :: l2 ∧ l1.length = j := ⟨l.take j, l[j], l.drop (j + 1), by rw [List.getElem_cons_drop, List.take_append_drop], by rw [List.length_take]; omega⟩
    have hx : ((l1 ++ x :: l2).map rkOf).getD l1.length rk0 = rkOf x := by
      rw [List.getD_eq_getElem?_getD, List.getElem?_map, List.getElem?_append_right (Nat.le_refl _), Nat.sub_self]; rfl
    rw [hx] at j2 j3
    have hKR : killR (l1 ++ x :: l2) (l1.length : Int) = l1 ++ x.die :: l2 := by
      unfold killR
      rw [if_pos (by omega), Int.toNat_natCast, List.set_append_right _ _ (Nat.le_refl _), Nat.sub_self, List.set_cons_zero, List.getD_eq_getElem?_getD, List.getElem?_append_right (Nat.le_refl _), Nat.sub_self]
      rfl
    rw [hKR]
    rw [List.map_append, List.map_cons] at hN ⊢
    have := liv_kill j2 hN
    rw [← j3, List.map_append, List.map_cons, ← this]
    rfl
  · have hKR : killR l (lastI (l.map rkOf) key l.length) = l := by unfold killR; rw [if_neg h0]
    rw [hKR]
    symm
    refine liv_none fun r hr => ?_
    obtain ⟨j, hj, rfl⟩ := List.getElem_of_mem hr
    have := lastI_none (l.map rkOf) key l.length (by omega) j (by rw [List.length_map] at hj; exact hj)
    rw [List.getD_eq_getElem?_getD, List.getElem?_eq_getElem hj] at this
    exact this
theorem NM.set {s : FlS} {c k : Nat} {G : Int} {M : List RK} (h : NM s c k G M) (hk0 : 0 < k) (hG : G < 4294967295) {key val : List UInt8} (hk : 1 ≤ key.length ∧ key.length ≤ 255) (hv : val.length ≤ 65536) :
    (c * k - 16 < usedK M + (12 + key.length + val.length) → s.set c key val = (5, s)) ∧
    (usedK M + (12 + key.length + val.length) ≤ c * k - 16 → ∃ s', s.set c key val = (0, s') ∧ NM s' c k (G + 1) (setM M key val)) := by
  obtain ⟨i, g, l, m, O, hn, hgG, hM, hN, hK⟩ := h
  have hbig := hn.big
  have hkk := hn.hk
  have hbn := hn.bi.n
  rw [hkk] at hbn
  have hcs : (c : Int) * (s.k : Int) = ((c * k : Nat) : Int) := by rw [hkk]; simp
  have hkl : keptK (l.map rkOf) = M := (keptK_liv hN).trans hM
  have hset : s.set c key val = if (c : Int) * s.k - 16 < usedK M + (12 + key.length + val.length) then (5, s) else if (true : Bool) = false ∨ (c : Int) * s.k - 16 + 16 - ((16 + (encL l).length : Nat) : Int) < 12 + key.length + val.length then (if (s.copy c M).1 = 0 then (if (s.copy c M).2.dd = true then (6, (s.copy c M).2) else (s.copy c M).2.put c key val) else s.copy c M) else s.put c key val := by
    unfold FlS.set
    rw [if_neg (by omega), hn.bi.dd, hn.recK, hn.recs, hkl]
    simp only [Bool.false_eq_true, if_false]
  rw [hset]
  constructor
  · intro hf
    rw [if_pos (by omega)]
  · intro hf
    rw [if_neg (by omega)]
    have fin : ∀ {t : FlS} {i' : Nat} {g' : Int} {l' : List Rc} {m' : Nat} {O' : List UInt8}, NG t c k i' g' l' m' O' → g' ≤ G + 1 → livK (l'.map rkOf) = M → NodK (l'.map rkOf) → 12 + key.length + val.length ≤ m' → ∃ s', t.put c key val = (0, s') ∧ NM s' c k (G + 1) (setM M key val) := by
      intro t i' g' l' m' O' ht hg' hl' hN' hm'
      obtain ⟨s', d, e1, rfl, e2⟩ := ht.put hk hv hm'
      have hpl := put_liv (l := l') (key := key) (val := val) (p := 16 + (encL l').length) hN'
      rw [hl'] at hpl
      refine ⟨s', e1, i', g', _, _, O', e2, hg', hpl, ?_, ?_⟩
      · unfold NodK
        rw [hpl]
        unfold NodK at hN'
        rw [hl'] at hN'
        exact nodK_put hN'
      · intro r hr
        unfold setM at hr
        rcases List.mem_append.1 hr with h1 | h1
        · exact hK r (List.mem_filter.1 h1).1
        · rw [List.mem_singleton] at h1
          subst h1
          exact ⟨hk, hv⟩
    by_cases hc : (c : Int) * s.k - 16 + 16 - ((16 + (encL l).length : Nat) : Int) < 12 + key.length + val.length
    · rw [if_pos (.inr hc)]
      obtain ⟨t, O', e1, e2⟩ := hn.copy hk0 (by omega) M hK (by omega)
      rw [e1, if_pos rfl, if_neg (by rw [e2.bi.dd]; simp)]
      have hlv : ∀ r ∈ M, r.lv = true := by
        intro r hr
        rw [← hM] at hr
        exact (List.mem_filter.1 hr).2
      have hpk := placeK_rk M 16 hlv
      have hlm : livK M = M := by
        unfold livK
        rw [List.filter_eq_self]
        exact hlv
      refine fin e2 (by omega) (by rw [hpk, hlm]) ?_ (by omega)
      rw [hpk]
      unfold NodK
      rw [hlm]
      unfold NodK at hN
      rw [hM] at hN
      exact hN
    · rw [if_neg (fun q => by rcases q with q | q; cases q; exact hc q)]
      exact fin hn (by omega) hM hN (by omega)
end Go.Proofs.YtebilmfljoiaeaaDoor
