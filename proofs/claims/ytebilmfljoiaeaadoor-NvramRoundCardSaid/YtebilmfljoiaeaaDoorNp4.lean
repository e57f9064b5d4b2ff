/- Opening a store, and asking it: the plain law. Conditions: the premises of each law. -/
import Derived.Test.YtebilmfljoiaeaaDoorNp3
namespace Go.Proofs.YtebilmfljoiaeaaDoor
set_option linter.unusedVariables false
set_option linter.unusedSimpArgs false
theorem tidy_still {s : FlS} {a c : Nat} {l : List RK} (hN : NodK l) : ∀ (m k : Nat), k + m = l.length → s.tidyL a c l k m = (0, s)
  | 0, k, h => rfl
  | m + 1, k, h => by
    have hk : k < l.length := by omega
    have hg : l.getD k rk0 = l[k] := by rw [List.getD_eq_getElem?_getD, List.getElem?_eq_getElem hk]; rfl
    rw [FlS.tidyL, if_neg, tidy_still hN m (k + 1) (by omega)]
    rintro ⟨q1, q2⟩
    have h1 := keepB_lv hN hk
    rw [hg] at q1 q2
    rw [q1] at h1
    unfold keepB at h1
    rw [hg, decide_eq_true_iff] at h1
    exact q2 h1
theorem NM.tidy {s : FlS} {c k : Nat} {G : Int} {M : List RK} (h : NM s c k G M) : s.tidy c = (0, s) := by
  obtain ⟨i, g, l, m, O, hn, hgG, hM, hN, hK⟩ := h
  unfold FlS.tidy
  rw [hn.bi.dd, hn.recK, if_neg (by simp)]
  exact tidy_still hN _ 0 (by omega)
theorem NM.opn {s : FlS} {c k : Nat} {G : Int} {M : List RK} (h : NM s c k G M) : s.opn c = (0, s) := by
  have ht := h.tidy
  obtain ⟨i, g, l, m, O, hn, hgG, hM, hN, hK⟩ := h
  unfold FlS.opn
  rw [hn.bi.dd, if_neg (by simp), hn.cnt, if_neg (by simp), ht]
theorem NM.live {s : FlS} {c k : Nat} {G : Int} {M : List RK} (h : NM s c k G M) : s.dd = false := by
  obtain ⟨i, g, l, m, O, hn, _⟩ := h
  exact hn.bi.dd
theorem rep_head (n : Nat) : (List.replicate (n + 1) (255 : UInt8)).head? = some 255 := rfl
theorem headO_ff (n : Nat) (h : 16 ≤ n) : (headO (List.replicate n 255)).2 = false := by
  have h1 := head_not (s := ⟨List.replicate n 255, 0, 0, 0, false, 0⟩) (a := 0) (P := []) (X := List.replicate n 255) (Q := []) rfl (by simp) (by simp) (by simpa using h) (.inl (by obtain ⟨m, rfl⟩ : ∃ m, n = m + 1 := ⟨n - 1, by omega⟩; exact rep_head m))
  have h2 := head_of (s := ⟨List.replicate n 255, 0, 0, 0, false, 0⟩) (a := 0) (O := List.replicate n 255) rfl (by simp)
  rw [h2] at h1
  exact h1.1
theorem NM.new {c k : Nat} (hk : 0 < k) (hbig : 64 ≤ c * k) : ∃ s, (FlS.new (2 * c) k).bgn 0 c 1 [] = (0, s) ∧ (FlS.new (2 * c) k).opn c = (0, s) ∧ NM s c k 1 [] := by
  have hl : (FlS.new (2 * c) k).l = [] ++ (List.replicate (c * k) 255 ++ List.replicate (c * k) 255) := by
    show List.replicate (2 * c * k) 255 = _
    rw [List.nil_append, List.replicate_append_replicate]
    congr 1
    rw [Nat.mul_assoc]; omega
  obtain ⟨s, e, b, k1, a1⟩ := bgn_bi (s := FlS.new (2 * c) k) (a := 0) (c := c) (P := []) rfl hk hl (by simp) (by simp; rfl) hbig rfl 1 [] (by simp) (Nat.zero_le _)
  have hh0 : ((FlS.new (2 * c) k).head 0).2.1 = false := (head_not (a := 0) (P := []) (X := List.replicate (c * k) 255) (Q := List.replicate (c * k) 255) rfl hl (by simp) (by simp; omega) (.inl (by obtain ⟨m, hm⟩ : ∃ m, c * k = m + 1 := ⟨c * k - 1, by omega⟩; rw [hm]; exact rep_head m))).1
  have hhc : ((FlS.new (2 * c) k).head c).2.1 = false := (head_not (a := c) (P := List.replicate (c * k) 255) (X := List.replicate (c * k) 255) (Q := []) rfl (by rw [hl]; simp) (by simp; rfl) (by simp; omega) (.inl (by obtain ⟨m, hm⟩ : ∃ m, c * k = m + 1 := ⟨c * k - 1, by omega⟩; rw [hm]; exact rep_head m))).1
  have hc : ((FlS.new (2 * c) k).cnt c).2.2 = false := by
    unfold FlS.cnt
    rw [if_neg (fun q => by rw [hhc] at q; cases q.1)]
    exact hh0
  have hM : NM s c k 1 [] := by
    refine ⟨0, 1, [], c * k - 16, List.replicate (c * k) 255, ⟨?_, k1, a1, .inl rfl, by simp, by decide, .inl (headO_ff _ (by omega)), hbig⟩, by decide, rfl, List.nodup_nil, by simp⟩
    rw [Nat.zero_mul]
    exact b
  refine ⟨s, e, ?_, hM⟩
  unfold FlS.opn
  rw [if_neg (by simp [FlS.new]), if_pos hc, e, if_pos rfl, hM.tidy]
/-- what a Get sees -/
theorem NM.look {s : FlS} {c k : Nat} {G : Int} {M : List RK} (h : NM s c k G M) : ∃ (i : Nat) (l : List Rc) (e : Nat), (i = 0 ∨ i = 1) ∧ (s.cnt c).1 = i ∧ s.scan (i * c) c = (l, e, true) ∧
    (∀ key : List UInt8, (∀ r ∈ M, r.key ≠ key) → lastK (l.map rkOf) key < 0) ∧
    (∀ r ∈ M, ∃ (j : Nat) (d : Rc), l[j]? = some d ∧ lastK (l.map rkOf) r.key = (j : Int) ∧ d.val = r.val) := by
  obtain ⟨i, g, l, m, O, hn, hgG, hM, hN, hK⟩ := h
  refine ⟨i, l, _, hn.hi, by rw [hn.cnt], hn.bi.scan, fun key hk => ?_, fun r hr => ?_⟩
  · have hlt := lastI_lt (l.map rkOf) key (l.map rkOf).length
    refine Int.not_le.1 fun h0 => ?_
    obtain ⟨j, hj⟩ : ∃ j : Nat, lastK (l.map rkOf) key = (j : Int) := ⟨(lastK (l.map rkOf) key).toNat, by omega⟩
    obtain ⟨j1, j2, j3⟩ := lastI_some _ _ _ _ hj
    have hg : (l.map rkOf).getD j rk0 = (l.map rkOf)[j] := by rw [List.getD_eq_getElem?_getD, List.getElem?_eq_getElem j1]; rfl
    rw [hg] at j2 j3
    refine hk (l.map rkOf)[j] ?_ j3
    rw [← hM]
    exact List.mem_filter.2 ⟨List.getElem_mem _, j2⟩
  · rw [← hM] at hr
    obtain ⟨h1, h2⟩ := List.mem_filter.1 hr
    obtain ⟨j, hj, hjr⟩ := List.getElem_of_mem h1
    have hj' : j < l.length := by rw [List.length_map] at hj; exact hj
    have hkb := keepB_lv hN hj
    rw [hjr, h2] at hkb
    unfold keepB at hkb
    rw [List.getD_eq_getElem?_getD, List.getElem?_eq_getElem hj, decide_eq_true_iff, Option.getD_some, hjr] at hkb
    refine ⟨j, l[j], List.getElem?_eq_getElem hj', hkb, ?_⟩
    rw [← hjr, List.getElem_map]
    rfl
end Go.Proofs.YtebilmfljoiaeaaDoor
