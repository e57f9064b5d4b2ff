/- VarsFull: the plain law. A Set of a plain variable, whatever is there: what it answers, and makes. Walk of lintellaw23: VarsFull. Conditions: the premises of each law. -/
import Derived.Test.YtmjpbmcbcppkfaaGreatDoorJVvc
import Derived.Test.YtmjpbmcbcppkfaaGreatDoorJVx
namespace Go.Proofs.YtmjpbmcbcppkfaaGreatDoor
open Go.RowKit
set_option linter.unusedVariables false
set_option linter.unusedSimpArgs false
def sumJ (W : List UInt8) (Hs : List Int) (x : UInt8) : Nat → Int
 | 0 => 0
 | j + 1 => sumJ W Hs x j + (if W.getD j 0 = x then Hs.getD j 0 else 0)
def zapJ (W : List UInt8) (Hs : List Int) (x : UInt8) (j : Nat) : List Int := (List.range Hs.length).map fun i => if i < j ∧ W.getD i 0 = x then 0 else Hs.getD i 0
theorem zapJ_len (W : List UInt8) (Hs : List Int) (x : UInt8) (j : Nat) : (zapJ W Hs x j).length = Hs.length := by simp [zapJ]
theorem zapJ_zero (W : List UInt8) (Hs : List Int) (x : UInt8) : zapJ W Hs x 0 = Hs := by
 unfold zapJ
 apply List.ext_getElem
 ·simp
 ·intro i h1 h2
  simp [List.getD_eq_getElem?_getD, h2]
theorem zapJ_getD (W : List UInt8) (Hs : List Int) (x : UInt8) (j i : Nat) (hi : i < Hs.length) : (zapJ W Hs x j).getD i 0 = if i < j ∧ W.getD i 0 = x then 0 else Hs.getD i 0 := by
 unfold zapJ
 rw [List.getD_eq_getElem?_getD, List.getElem?_map, List.getElem?_range hi]
 rfl
theorem zapJ_at (W : List UInt8) (Hs : List Int) (x : UInt8) (j : Nat) (hj : j < Hs.length) : (zapJ W Hs x j).getD j 0 = Hs.getD j 0 := by
 rw [zapJ_getD _ _ _ _ _ hj, if_neg (by omega)]
theorem zapJ_yes (W : List UInt8) (Hs : List Int) (x : UInt8) (j : Nat) (hj : j < Hs.length) (hx : W.getD j 0 = x) : (zapJ W Hs x j).set j 0 = zapJ W Hs x (j + 1) := by
 apply List.ext_getElem
 ·simp [zapJ_len]
 ·intro i h1 h2
  simp only [zapJ_len] at h2
  rw [List.getElem_set]
  have e : ∀ q, (zapJ W Hs x q)[i]'(by rw [zapJ_len]; exact h2) = (zapJ W Hs x q).getD i 0 := fun q => by rw [List.getD_eq_getElem?_getD, List.getElem?_eq_getElem (by rw [zapJ_len]; exact h2)]; rfl
  rw [e j, e (j + 1), zapJ_getD _ _ _ _ _ h2, zapJ_getD _ _ _ _ _ h2]
  by_cases q : j = i
  ·subst q
   rw [if_pos rfl, if_pos ⟨by omega, hx⟩]
  ·rw [if_neg q]
   by_cases q2 : i < j ∧ W.getD i 0 = x
   ·rw [if_pos q2, if_pos ⟨by omega, q2.2⟩]
   ·rw [if_neg q2, if_neg (fun q3 => q2 ⟨by omega, q3.2⟩)]
theorem zapJ_no (W : List UInt8) (Hs : List Int) (x : UInt8) (j : Nat) (hx : W.getD j 0 ≠ x) : zapJ W Hs x (j + 1) = zapJ W Hs x j := by
 unfold zapJ
 refine List.map_congr_left fun i _ => ?_
 by_cases q : i < j ∧ W.getD i 0 = x
 ·rw [if_pos q, if_pos ⟨by omega, q.2⟩]
 ·rw [if_neg q, if_neg]
  rintro ⟨q1, q2⟩
  by_cases q3 : i = j
  ·subst q3; exact hx q2
  ·exact q ⟨by omega, q2⟩
theorem sumJ_next (W : List UInt8) (Hs : List Int) (hl : W.length = Hs.length) (x x' : UInt8) (n : Int) : sumJ (W ++ [x]) (zapJ W Hs x Hs.length ++ [n]) x' (W.length + 1) = if x' = x then n else sumJ W Hs x' W.length := by
 have key : ∀ j, j ≤ W.length → sumJ (W ++ [x]) (zapJ W Hs x Hs.length ++ [n]) x' j = if x' = x then 0 else sumJ W Hs x' j := by
  intro j
  induction j with
  | zero => intro _; simp [sumJ]
  | succ j ih =>
   intro hj
   have e1 : (W ++ [x]).getD j 0 = W.getD j 0 := by rw [List.getD_eq_getElem?_getD, List.getD_eq_getElem?_getD, List.getElem?_append_left (by omega)]
   have e2 : (zapJ W Hs x Hs.length ++ [n]).getD j 0 = (zapJ W Hs x Hs.length).getD j 0 := by rw [List.getD_eq_getElem?_getD, List.getD_eq_getElem?_getD, List.getElem?_append_left (by rw [zapJ_len]; omega)]
   simp only [sumJ]
   rw [ih (by omega), e1, e2, zapJ_getD _ _ _ _ _ (by omega)]
   by_cases q : x' = x
   ·subst q
    rw [if_pos rfl, if_pos rfl]
    by_cases q2 : W.getD j 0 = x'
    ·rw [if_pos q2, if_pos ⟨by omega, q2⟩]; rfl
    ·rw [if_neg q2]; rfl
   ·rw [if_neg q, if_neg q]
    by_cases q2 : W.getD j 0 = x'
    ·rw [if_pos q2, if_pos q2, if_neg (fun q3 => q (q2.symm.trans q3.2))]
    ·rw [if_neg q2, if_neg q2]
 simp only [sumJ]
 rw [key _ (Nat.le_refl _)]
 have e1 : (W ++ [x]).getD W.length 0 = x := by simp
 have e2 : (zapJ W Hs x Hs.length ++ [n]).getD W.length 0 = n := by rw [List.getD_eq_getElem?_getD, List.getElem?_append_right (by rw [zapJ_len]; omega), zapJ_len, hl, Nat.sub_self]; rfl
 rw [e1, e2]
 by_cases q : x' = x
 ·subst q; simp
 ·rw [if_neg q, if_neg q, if_neg (fun e => q e.symm)]; omega
theorem usedK_app (a b : List RK) : usedK (a ++ b) = usedK a + usedK b := by
 induction a with
 | nil => simp [usedK]
 | cons r a ih => simp only [List.cons_append, usedK, ih]; omega
theorem usedK_key (key : List UInt8) : ∀ M : List RK, usedK (M.filter fun r => r.key != key) + usedK (M.filter fun r => r.key == key) = usedK M
 | [] => rfl
 | r :: M => by
  have ih := usedK_key key M
  by_cases q : r.key = key
  ·rw [List.filter_cons_of_neg (by simp [q]), List.filter_cons_of_pos (by simp [q])]
   simp only [usedK]; omega
  ·rw [List.filter_cons_of_pos (by simp [q]), List.filter_cons_of_neg (by simp [q])]
   simp only [usedK]; omega
theorem setM_used (M : List RK) (key val : List UInt8) : usedK (setM M key val) + usedK (M.filter fun r => r.key == key) = usedK M + (12 + key.length + val.length) := by
 have := usedK_key key M
 unfold setM
 rw [usedK_app]
 simp only [usedK]
 omega
theorem setM_same (M : List RK) (key val : List UInt8) : usedK ((setM M key val).filter fun r => r.key == key) = 12 + key.length + val.length := by
 unfold setM
 rw [List.filter_append, List.filter_filter, usedK_app]
 have e : (M.filter fun r => (r.key == key) && (r.key != key)) = [] := by
  rw [List.filter_eq_nil_iff]
  intro r _
  by_cases q : r.key = key <;> simp [q]
 rw [e]
 simp [usedK]
theorem setM_other (M : List RK) (key val key' : List UInt8) (h : key' ≠ key) : usedK ((setM M key val).filter fun r => r.key == key') = usedK (M.filter fun r => r.key == key') := by
 unfold setM
 rw [List.filter_append, List.filter_filter, usedK_app]
 have e : (M.filter fun r => (r.key == key') && (r.key != key)) = M.filter fun r => r.key == key' := by
  refine List.filter_congr fun r _ => ?_
  by_cases q : r.key = key'
  ·subst q; simp [h]
  ·simp [q]
 rw [e]
 simp [usedK, h.symm]
def kN (b : UInt8) : ByteArray := (⟨#[118]⟩ : ByteArray) ++ strOf [97 + b]
theorem kN_ok : ∀ n : Fin 8, rightN (kN (UInt8.ofNat n)) = true ∧ (kN (UInt8.ofNat n)).size = 2 ∧ kindF (kN (UInt8.ofNat n)).data.toList (List.replicate 16 0) = 0 := by decide
theorem kN_inj : ∀ n m : Fin 8, keyV (kN (UInt8.ofNat n)) (List.replicate 16 0) = keyV (kN (UInt8.ofNat m)) (List.replicate 16 0) → n = m := by decide
end Go.Proofs.YtmjpbmcbcppkfaaGreatDoor
namespace Go.Proofs.YtmjpbmcbcppkfaaGreatDoor
open Go.RowKit
set_option linter.unusedVariables false
set_option linter.unusedSimpArgs false
set_option maxRecDepth 100000
set_option maxHeartbeats 3000000
structure PA (a : Int) (s : FlS) (y i : Nat) (M : List RK) : Prop where
 pb : PB s y i M
 at_ : ∀ r ∈ M, ∃ u, PV u ∧ u.at_ = a ∧ u.d.length ≤ 4000 ∧ r = rcdV u
def ndV (nm : ByteArray) (n : Nat) : Nat := 80 + nm.size + n
theorem rcd_need {nm : ByteArray} {g : List UInt8} {a : Int} {d : List UInt8} (hv : PV (plV nm g a d)) : 12 + (keyV nm g).length + (laidV (plV nm g a d)).length = ndV nm d.length := by
 rw [laid_len hv.ok.ok]
 unfold keyV ndV
 rw [List.length_append, show g.length = 16 from hv.ok.ok.g]
 show 12 + (16 + nm.data.toList.length) + (52 + d.length) = _
 have : nm.data.toList.length = nm.size := by simp
 omega
theorem vset_step {a : Int} {s : FlS} {y i : Nat} {M : List RK} (h : PA a s y i M) (hi : i ≤ 1000) (ha : a = 3 ∨ a = 7) (nm : ByteArray) (g : List UInt8) (hr : rightN nm = true) (hg : g.length = 16) (hk : kindF nm.data.toList g = 0) (d : List UInt8) (hd : 0 < d.length) (hl : d.length ≤ 4000) (z vv vk vs va vb v0 v1 : Nat) :
    ∃ (e : Int) (s' : FlS) (M' : List RK), Spec Tryz.prog 8 [.ref 0 vv 1 0 0, .val (.string nm), .agg (bytesA 16 g), .val (.int .u32 a), .bs z d] [⟨vv, .obj [.ref 1 vk 1 0 0]⟩, ⟨vk, .obj [.ref 2 vs 3 0 0]⟩, ⟨vs, .obj [.ref 5 v0 6 0 0, .ref 3 va 3 0 0, .ref 4 vb 3 0 0]⟩, ⟨va, .obj [.ref 5 v0 6 0 0, .val (.int .i64 ((0 : Nat) : Int)), .val (.int .i64 ((1 : Nat) : Int))]⟩, ⟨vb, .obj [.ref 5 v0 6 0 0, .val (.int .i64 ((1 : Nat) : Int)), .val (.int .i64 ((1 : Nat) : Int))]⟩, ⟨v0, .obj [.own 6 v1 1 0 s.l.length, .val (.int .i64 (s.k : Int)), .val (.int .i64 s.ar), .val (.int .i64 s.pt), .val (.bool s.dd), .val (.int .i64 s.wr)]⟩, ⟨v1, .bytes s.l⟩] (pms (.val (.int .i64 e)) [⟨vv, .obj [.ref 1 vk 1 0 0]⟩, ⟨vk, .obj [.ref 2 vs 3 0 0]⟩, ⟨vs, .obj [.ref 5 v0 6 0 0, .ref 3 va 3 0 0, .ref 4 vb 3 0 0]⟩, ⟨va, .obj [.ref 5 v0 6 0 0, .val (.int .i64 ((0 : Nat) : Int)), .val (.int .i64 ((1 : Nat) : Int))]⟩, ⟨vb, .obj [.ref 5 v0 6 0 0, .val (.int .i64 ((1 : Nat) : Int)), .val (.int .i64 ((1 : Nat) : Int))]⟩, ⟨v0, .obj [.own 6 v1 1 0 s'.l.length, .val (.int .i64 (s'.k : Int)), .val (.int .i64 s'.ar), .val (.int .i64 s'.pt), .val (.bool s'.dd), .val (.int .i64 s'.wr)]⟩, ⟨v1, .bytes s'.l⟩] []) ∧ PA a s' y (i + 1) M' ∧
     ((e = 5 ∧ y - 16 < usedK M + ndV nm d.length ∧ M' = M) ∨ (e = 0 ∧ usedK M + ndV nm d.length ≤ y - 16 ∧ M' = setM M (keyV nm g) (laidV (plV nm g a d)))) := by
 have hA : AtO a a false := by rcases ha with rfl | rfl <;> simp [AtO]
 have hv : PV (plV nm g a d) := plV_PV hr hg (by rcases ha with rfl | rfl <;> decide) (by omega) hk
 have hnd := rcd_need hv
 obtain ⟨p1, p2⟩ := h.pb.put hi _ hv
 have hS : ∃ w, Spec Tryz.prog 8 [.ref 0 vv 1 0 0, .val (.string nm), .agg (bytesA 16 g), .val (.int .u32 a), .bs z d] [⟨vv, .obj [.ref 1 vk 1 0 0]⟩, ⟨vk, .obj [.ref 2 vs 3 0 0]⟩, ⟨vs, .obj [.ref 5 v0 6 0 0, .ref 3 va 3 0 0, .ref 4 vb 3 0 0]⟩, ⟨va, .obj [.ref 5 v0 6 0 0, .val (.int .i64 ((0 : Nat) : Int)), .val (.int .i64 ((1 : Nat) : Int))]⟩, ⟨vb, .obj [.ref 5 v0 6 0 0, .val (.int .i64 ((1 : Nat) : Int)), .val (.int .i64 ((1 : Nat) : Int))]⟩, ⟨v0, .obj [.own 6 v1 1 0 s.l.length, .val (.int .i64 (s.k : Int)), .val (.int .i64 s.ar), .val (.int .i64 s.pt), .val (.bool s.dd), .val (.int .i64 s.wr)]⟩, ⟨v1, .bytes s.l⟩] (pms (.val (.int .i64 (vsetP s nm g a false w d).1)) [⟨vv, .obj [.ref 1 vk 1 0 0]⟩, ⟨vk, .obj [.ref 2 vs 3 0 0]⟩, ⟨vs, .obj [.ref 5 v0 6 0 0, .ref 3 va 3 0 0, .ref 4 vb 3 0 0]⟩, ⟨va, .obj [.ref 5 v0 6 0 0, .val (.int .i64 ((0 : Nat) : Int)), .val (.int .i64 ((1 : Nat) : Int))]⟩, ⟨vb, .obj [.ref 5 v0 6 0 0, .val (.int .i64 ((1 : Nat) : Int)), .val (.int .i64 ((1 : Nat) : Int))]⟩, ⟨v0, .obj [.own 6 v1 1 0 (vsetP s nm g a false w d).2.l.length, .val (.int .i64 ((vsetP s nm g a false w d).2.k : Int)), .val (.int .i64 (vsetP s nm g a false w d).2.ar), .val (.int .i64 (vsetP s nm g a false w d).2.pt), .val (.bool (vsetP s nm g a false w d).2.dd), .val (.int .i64 (vsetP s nm g a false w d).2.wr)]⟩, ⟨v1, .bytes (vsetP s nm g a false w d).2.l⟩] []) := by
  by_cases q : ∃ r ∈ M, r.key = keyV nm g
  ·obtain ⟨r, hr1, e⟩ := q
   obtain ⟨u, hu, hua, hul, rfl⟩ := h.at_ r hr1
   obtain ⟨e1, e2⟩ := keyV_inj hu.ok.ok.g hg e
   exact ⟨some u.d, vset_there h.pb hi hA hr hg hk (.inr hd) u (by omega) hu hr1 e1 e2 hua vv vk vs va vb v0 v1⟩
  ·exact ⟨none, vset_new h.pb hi hA hr hg hk (.inr hd) (by omega) (fun r hr1 e => q ⟨r, hr1, e⟩) vv vk vs va vb v0 v1⟩
 obtain ⟨w, hS⟩ := hS
 have e0 : vsetP s nm g a false w d = kputP s (plV nm g a d) := rfl
 rw [e0] at hS
 have hkv : 12 + (kV (plV nm g a d)).length + (laidV (plV nm g a d)).length = ndV nm d.length := hnd
 rw [← Nat.add_assoc, ← Nat.add_assoc] at p1 p2
 by_cases hf : y - 16 < usedK M + ndV nm d.length
 ·have e := p1 (by omega)
  rw [e] at hS
  exact ⟨5, s, M, hS, ⟨h.pb.up, h.at_⟩, .inl ⟨rfl, hf, rfl⟩⟩
 ·obtain ⟨s', e, P⟩ := p2 (by omega)
  rw [e] at hS
  refine ⟨0, s', _, hS, ⟨P, fun r hr1 => ?_⟩, .inr ⟨rfl, by omega, rfl⟩⟩
  unfold setM at hr1
  rcases List.mem_append.1 hr1 with q | q
  ·exact h.at_ r (List.mem_filter.1 q).1
  ·rw [List.mem_singleton] at q
   exact ⟨_, hv, rfl, hl, q⟩
end Go.Proofs.YtmjpbmcbcppkfaaGreatDoor
namespace Go.Proofs.YtmjpbmcbcppkfaaGreatDoor
open Go.RowKit
set_option linter.unusedVariables false
set_option linter.unusedSimpArgs false
set_option maxRecDepth 100000
set_option maxHeartbeats 6000000
theorem vneed8_vc (k v : Int) (hk : 0 ≤ k ∧ k ≤ 140737488355328) (hv : 0 ≤ v ∧ v ≤ 140737488355328) : Spec Tryz.prog 29 [.val (.int .i64 k), .val (.int .i64 v)] [] (pms (.val (.int .i64 (12 + k + v))) [] []) := by
 refine spec_entry tbOk Tryz.func29 rfl Tryz.ntmps29 Tryz.results29 ?_
 refine ggO (k := ?_)
 exact ⟨_, rfl, rfl, trivial⟩
theorem vneed_vc (nm : ByteArray) (hn : nm.size ≤ 1000000) (d : Int) (hd : 0 ≤ d ∧ d ≤ 1000000) : Spec Tryz.prog 12 [.val (.string nm), .val (.int .i64 d)] [] (pms (.val (.int .i64 (12 + (16 + nm.size) + (52 + d)))) [] []) := by
 refine spec_entry tbOk Tryz.func12 rfl Tryz.ntmps12 Tryz.results12 ?_
 refine ggO (k := ?_)
 refine cmks (vneed8_vc (16 + (nm.size : Int)) (52 + d) (by omega) (by omega)) Tryz.call29 0 [] [] [] ?_
 refine ggO (k := ?_)
 exact ⟨_, rfl, rfl, trivial⟩
theorem kN_lit : ∀ n : Fin 8, List.take 1 (List.drop 0 (List.map (fun n : Int => UInt8.ofNat n.toNat) [97 + ((n : Nat) : Int)])) = [97 + UInt8.ofNat n] := by decide
theorem u8_eq (c : UInt8) {n : Nat} (hn : n < 8) : ((c.toNat : Nat) : Int) = (n : Int) ↔ c = UInt8.ofNat n := by
 constructor
 ·intro h
  have h : c.toNat = n := by omega
  rw [← h]; simp
 ·intro h
  rw [h]
  have : (UInt8.ofNat n).toNat = n := by simp [UInt8.toNat_ofNat']; omega
  rw [this]
theorem sumJ_bd {W : List UInt8} {H : List Int} (h : ∀ v ∈ H, 0 ≤ v ∧ v ≤ 4000) (x : UInt8) : ∀ j, j ≤ H.length → 0 ≤ sumJ W H x j ∧ sumJ W H x j ≤ 4000 * j
 | 0, _ => by simp [sumJ]
 | j + 1, hj => by
  have ih := sumJ_bd (W := W) h x j (by omega)
  have hv := h (H.getD j 0) (by rw [List.getD_eq_getElem?_getD, List.getElem?_eq_getElem (by omega)]; exact List.getElem_mem _)
  simp only [sumJ]
  split <;> omega
def g0 : List UInt8 := List.replicate 16 0
def kK (n : Nat) : List UInt8 := keyV (kN (UInt8.ofNat n)) g0
structure FsV where
 i : Nat
 s : FlS
 M : List RK
 W : List UInt8
 H : List Int
structure FsI (y : Nat) (l : List UInt8) (x : FsV) : Prop where
 i : x.i ≤ l.length
 p : PA 3 x.s y x.i x.M
 w : x.W.length = x.H.length
 wi : x.W.length ≤ x.i
 u : usedK x.M ≤ 4000 * x.i
 h : ∀ v ∈ x.H, 0 ≤ v ∧ v ≤ 4000
 c : ∀ n, n < 8 → sumJ x.W x.H (UInt8.ofNat n) x.W.length = (usedK (x.M.filter fun r => r.key == kK n) : Int)
theorem law_varsfull (z : Int) (hz : 0 ≤ z ∧ z ≤ 65535) (l : List UInt8) (hll : l.length ≤ 140737488355328) (L : List Int) (hL : ∀ v ∈ L, 0 ≤ v ∧ v ≤ 65535) (hLl : L.length ≤ 140737488355328) : Spec Tryz.prog 4 [.val (.int .u16 z), .bs 0 l, .sl 0 1 (fun n : Int => [.val (.int .u16 n)]) 0 L] [] (pms (.val (.bool true)) [] []) := by
 refine spec_entry tbOk Tryz.func4 rfl Tryz.ntmps4 Tryz.results4 ?_
 refine gg (k := ?_)
 by_cases hv : 30 < l.length ∨ L.length < l.length
 ·rw [show (decide ((30 : Int) < (l.length : Int)) || decide ((L.length : Int) < (l.length : Int))) = true by
    rw [Bool.or_eq_true, decide_eq_true_eq, decide_eq_true_eq]; omega]
  refine gg (k := ?_)
  refine cmks (works23_vc) Tryz.call6 0 [] [] [] ?_
  refine gg (k := ?_)
  exact ⟨_, rfl, rfl, trivial⟩
 have h30 : l.length ≤ 30 := by omega
 have hLL : l.length ≤ L.length := by omega
 rw [decide_eq_false (by omega : ¬ (30 : Int) < (l.length : Int)), decide_eq_false (by omega : ¬ (L.length : Int) < (l.length : Int))]
 obtain ⟨s1, o1, P1⟩ := PB.new (y := yV z) (yV_bd z)
 have hB := begun23_vc z hz s1 o1
 have hy := yV_bd z
 generalize yV z = y at P1 hy
 have hI1 := vinfo_vc P1 3 4 5 6 6 3 4
 refine gg (k := ?_)
 refine cmks (hB) Tryz.call7 0 [0, 0, 0, 0, 0, 0, 0, 0, 24, 25, 26, 27, 28, 29, 30] [0, 0, 0, 0, 0, 0, 0, 0, 1, 1, 1, 1, 1, 1, 1] [8, 9, 10, 11, 12, 13, 14] ?_
 refine gg (k := ?_)
 refine cmks (hI1) Tryz.call11 7 [26, 27, 28, 29, 30, 24, 25] [0, 0, 0, 0, 0, 0, 0] [] ?_
 refine gg (k := ?_)
 (refine sts (k := ?_))
 conv => whnf
 clear hB hI1
 refine loop_le (leS_trans (leS_nil 131 1 (.bytes []) rfl (by decide) rfl (t' := [.any, .bs 0 l, .sl 0 1 (fun n : Int => [AV.val (.int .u16 n)]) 0 L, .any, .any, .any, .val (.bool false), .any, .ref 26 3 1 0 0, .val (.int .i64 ((y : Int) - 16)), .any, .any, .val (.slice none 0 0), .own 131 1 1 0 0, .val (.int .i64 0), .val (.int .i64 0), .any, .any, .any, .any, .any, .any, .any, .any, .any, .any, .any, .any, .any, .any, .any, .any, .any, .any, .any, .any, .any, .any, .any, .any, .any, .any, .any, .any, .any, .any, .any, .any, .any, .any, .any, .any, .any, .any, .any, .any, .any, .any, .any, .any, .any, .any, .any, .any, .any, .any, .any, .any, .any, .any, .any, .any, .any, .any, .any, .any, .any, .any, .any, .any, .any, .any, .any, .any, .any, .any, .any, .any, .any, .any, .any, .any, .any, .any, .any, .any, .any, .any, .any, .any, .any, .any, .any, .any, .any, .any, .any, .any, .any, .any, .any, .any, .any, .any, .any, .any, .any, .any, .any, .any, .any, .any, .any, .any, .any, .any, .any, .any, .any, .any, .any, .any, .any, .any, .any, .any, .any, .any, .any, .any, .any, .any, .any, .any, .any, .any, .any, .any, .any, .any, .any, .any, .any]) ?_) (leS_nil 135 1 (.row 1 (fun n : Int => [AV.val (.int .i64 n)]) 0 []) rfl (by decide) rfl (t' := [.any, .bs 0 l, .sl 0 1 (fun n : Int => [AV.val (.int .u16 n)]) 0 L, .any, .any, .any, .val (.bool false), .any, .ref 26 3 1 0 0, .val (.int .i64 ((y : Int) - 16)), .any, .any, .own 135 1 1 0 0, .own 131 1 1 0 0, .val (.int .i64 0), .val (.int .i64 0), .any, .any, .any, .any, .any, .any, .any, .any, .any, .any, .any, .any, .any, .any, .any, .any, .any, .any, .any, .any, .any, .any, .any, .any, .any, .any, .any, .any, .any, .any, .any, .any, .any, .any, .any, .any, .any, .any, .any, .any, .any, .any, .any, .any, .any, .any, .any, .any, .any, .any, .any, .any, .any, .any, .any, .any, .any, .any, .any, .any, .any, .any, .any, .any, .any, .any, .any, .any, .any, .any, .any, .any, .any, .any, .any, .any, .any, .any, .any, .any, .any, .any, .any, .any, .any, .any, .any, .any, .any, .any, .any, .any, .any, .any, .any, .any, .any, .any, .any, .any, .any, .any, .any, .any, .any, .any, .any, .any, .any, .any, .any, .any, .any, .any, .any, .any, .any, .any, .any, .any, .any, .any, .any, .any, .any, .any, .any, .any, .any, .any, .any, .any, .any, .any, .any, .any, .any]) ?_)) ?_
 ·simp [leTn, setD, setL, updH, evA, unA, getA, getL, constA, undefs, deads]
 ·simp [leTn, setD, setL, updH, evA, unA, getA, getL, constA, undefs, deads]
 dsimp only [setL]
 refine loop_at (FsI y l) (fun x => l.length - x.i) 0 [6, 12, 13, 14, 15, 16, 17, 18, 19, 20, 21, 22, 23, 50, 51, 52, 53, 54, 55, 56, 57, 58, 59, 60, 61, 62, 63, 64, 65, 66, 67, 68, 69, 70, 71, 72, 73, 74, 75, 76, 77, 78, 79, 80, 81, 82, 83, 84, 85, 86, 87, 88, 89, 90, 91, 92, 93, 94, 95, 96, 97, 98, 99, 100, 101, 102, 103, 104, 105, 106, 107, 108, 109, 110, 111, 112, 113, 114, 115, 116, 117, 118, 119, 120, 121, 122, 123, 124, 125, 126, 127, 128, 129, 130, 131, 132, 133, 134, 135, 136, 137, 138, 139, 140, 141, 142, 143, 144, 145, 146, 147, 148, 149, 150, 151] (fun x => [(12, .own 135 (x.W.length + 1) 1 0 x.H.length), (13, .own 131 (x.W.length + 1) 1 0 x.W.length), (14, .val (.int .i64 (usedK x.M : Int))), (15, .val (.int .i64 (x.i : Int)))])
  (fun x => [(24, ⟨3, .obj [.own 25 4 1 0 x.s.l.length, .val (.int .i64 (x.s.k : Int)), .val (.int .i64 x.s.ar), .val (.int .i64 x.s.pt), .val (.bool x.s.dd), .val (.int .i64 x.s.wr)]⟩), (25, ⟨4, .bytes x.s.l⟩), (131, ⟨x.W.length + 1, .bytes x.W⟩), (135, ⟨x.W.length + 1, .row 1 (fun n : Int => [AV.val (.int .i64 n)]) 0 x.H⟩)]) ⟨0, s1, [], [], []⟩ ⟨Nat.zero_le _, ⟨P1, by simp⟩, rfl, Nat.le_refl _, by simp [usedK], by simp, by simp [sumJ, usedK]⟩ ?_ ?_ ?_
 ·exact no_implicit_lambda% ten
 ·exact no_implicit_lambda% hen
 ·rintro ⟨i, s, M, W, H⟩ v hI
  obtain ⟨i1, p1, w1, w2, u1, h1, c1⟩ := hI
  simp only at i1 p1 w1 w2 u1 h1 c1
  refine glp (k := ?_)
  refine gg (k := ?_)
  refine ⟨fun h => ?_, fun h => ?_⟩
  ·have hlt : i < l.length := by have := of_decide_eq_true h; omega
   have hLi : 0 ≤ L.getD i 0 ∧ L.getD i 0 ≤ 65535 := by
    rw [List.getD_eq_getElem?_getD, List.getElem?_eq_getElem (by omega)]
    exact hL _ (List.getElem_mem _)
   refine gg (k := ?_)
   simp only [Int.toNat_natCast]
   generalize L.getD i 0 = c at hLi
   refine gg (k := ?_)
   simp only [Int.toNat_natCast]
   obtain ⟨b, hbe⟩ : ∃ b, b = l.getD i 0 := ⟨_, rfl⟩
   rw [← hbe]
   have hb := b.toNat_lt
   obtain ⟨n, hn8, hn⟩ : ∃ n : Nat, n < 8 ∧ ((b.toNat : Nat) : Int) % 8 = (n : Int) := ⟨b.toNat % 8, Nat.mod_lt _ (by decide), by omega⟩
   clear hb
   rw [hn, show (97 + (n : Int)) % 256 = 97 + (n : Int) by omega]
   refine gos (hA := ?_) (k := ?_)
   ·exact ⟨⟨⟨⟨rfl, ⟨rfl, trivial⟩, Nat.le_refl _, trivial⟩, by decide, by decide⟩, ⟨⟨⟨by omega, by omega⟩, trivial⟩, rfl, rfl⟩⟩, trivial⟩
   refine gg (k := ?_)
   rw [kN_lit ⟨n, hn8⟩]
   obtain ⟨kr, kz, kk⟩ := kN_ok ⟨n, hn8⟩
   simp only at kr kz kk
   rw [show ((⟨#[118]⟩ : ByteArray) ++ strOf [97 + UInt8.ofNat n]) = kN (UInt8.ofNat n) from rfl]
   have hkn : keyV (kN (UInt8.ofNat n)) g0 = kK n := rfl
   generalize kN (UInt8.ofNat n) = nm at kr kz kk hkn
   obtain ⟨N, hN⟩ : ∃ N : Nat, (N : Int) = 1 + c % 2000 := ⟨(1 + c % 2000).toNat, by omega⟩
   rw [← hN]
   have hN2 : 1 ≤ N ∧ N ≤ 2000 := by omega
   obtain ⟨e, s', M', hS, hPA, hcase⟩ := vset_step p1 (by omega) (.inl rfl) nm g0 kr rfl kk (List.replicate N 0) (by simp; omega) (by simp; omega) 0 3 4 5 6 6 3 4
   refine cmks (vneed_vc nm (by omega) N (by omega)) Tryz.call12 0 [] [] [] ?_
   rw [kz]
   refine gg (k := ?_)
   conv => whnf
   refine callK_frz 79 (er := ⟨v 79 + 1, .bytes (List.replicate N 0)⟩) rfl (args' := [.ref 26 3 1 0 0, .val (.string nm), .agg (bytesA 16 g0), .val (.int .u32 3), .bs 0 (List.replicate N 0)]) (AFL.cons AF.same (AFL.cons AF.same (AFL.cons AF.same (AFL.cons AF.same (AFL.cons (AF.own (l := List.replicate N 0) rfl (by simp)) AFL.nil))))) ?_
   refine cmks (hS) Tryz.call8 7 [26, 27, 28, 29, 30, 24, 25] [0, 0, 0, 0, 0, 0, 0] [] ?_
   have hI2 := vinfo_vc hPA.pb 3 4 5 6 6 3 4
   have hnd : ndV nm (List.replicate N (0 : UInt8)).length = 82 + N := by unfold ndV; rw [kz, List.length_replicate]
   rw [hnd] at hcase
   rcases hcase with ⟨rfl, hf, rfl⟩ | ⟨rfl, hf, rfl⟩
   ·refine gg (k := ?_)
    rw [decide_eq_true (by omega : (y : Int) - 16 < (usedK M' : Int) + (12 + (16 + ((2 : Nat) : Int)) + (52 + (N : Int))))]
    refine ggO (k := ?_)
    refine cmks (hI2) Tryz.call11 7 [26, 27, 28, 29, 30, 24, 25] [0, 0, 0, 0, 0, 0, 0] [] ?_
    refine ggO (k := ?_)
    rw [decide_eq_true (rfl : (usedK M' : Int) = (usedK M' : Int))]
    refine ggO (k := ?_)
    refine back_at ⟨i + 1, s', M', W, H⟩ ⟨hlt, hPA, w1, by show W.length ≤ i + 1; omega, by show usedK M' ≤ 4000 * (i + 1); omega, h1, c1⟩ (by show l.length - (i + 1) < l.length - i; omega) ?_ ?_
    ·exact no_implicit_lambda% ten
    ·exact no_implicit_lambda% hen
   ·refine gg (k := ?_)
    rw [decide_eq_false (by omega : ¬ (y : Int) - 16 < (usedK M : Int) + (12 + (16 + ((2 : Nat) : Int)) + (52 + (N : Int))))]
    refine ggO (k := ?_)
    (refine sts (k := ?_))
    conv => whnf
    refine loop_at (fun q : Nat × List Int × Int => q.1 ≤ W.length ∧ q.2.1 = zapJ W H (UInt8.ofNat n) q.1 ∧ q.2.2 = (usedK M : Int) - sumJ W H (UInt8.ofNat n) q.1) (fun q => W.length - q.1) 0 [14, 20, 99, 100, 101, 102, 103, 104, 105, 106, 107, 108, 109, 110, 111, 112, 113, 114, 115, 116, 117, 118, 119, 120, 121, 122, 123] (fun q => [(14, .val (.int .i64 q.2.2)), (20, .val (.int .i64 (q.1 : Int)))])
     (fun q => [(135, ⟨W.length + 1, .row 1 (fun n : Int => [AV.val (.int .i64 n)]) 0 q.2.1⟩)]) (0, H, (usedK M : Int)) ⟨Nat.zero_le _, (zapJ_zero _ _ _).symm, by simp [sumJ]⟩ ?_ ?_ ?_
    ·exact no_implicit_lambda% ten
    ·exact no_implicit_lambda% hen
    ·rintro ⟨j, Hj, uj⟩ v' ⟨j1, j2, j3⟩
     simp only at j1 j2 j3
     have hsb := sumJ_bd (W := W) h1 (UInt8.ofNat n) j (by omega)
     have hHl : Hj.length = H.length := by rw [j2, zapJ_len]
     refine glp (k := ?_)
     refine gg (k := ?_)
     refine ⟨fun h => ?_, fun h => ?_⟩
     ·have hjl : j < W.length := by have := of_decide_eq_true h; omega
      have hHj : Hj.getD j 0 = H.getD j 0 := by rw [j2]; exact zapJ_at _ _ _ _ (by omega)
      have hvj := h1 (H.getD j 0) (by rw [List.getD_eq_getElem?_getD, List.getElem?_eq_getElem (by omega)]; exact List.getElem_mem _)
      refine gg (k := ?_)
      (refine sts (k := ?_))
      refine draw_of (p := 0) tbOk hm [0, 0, 3, 7, 0, 0, 48, 112, 240, 511] [⟨0, false, false, []⟩, ⟨1, false, false, []⟩, ⟨2, true, false, [108, 109, 110, 111, 112, 113, 114]⟩, ⟨3, true, false, [109, 110, 111, 112, 113, 114]⟩, ⟨4, false, false, []⟩, ⟨5, false, false, []⟩, ⟨6, true, false, [105, 106, 107, 108, 112, 113, 114]⟩, ⟨7, true, false, [105, 106, 107, 108, 113, 114]⟩, ⟨8, false, false, []⟩, ⟨9, false, false, []⟩] (by kernel_rfl) ?_
      refine gg (k := ?_)
      refine ⟨fun h => ?_, fun h => ?_⟩
      ·have hx : W.getD j 0 = UInt8.ofNat n := (u8_eq _ hn8).1 (by have := of_decide_eq_true h; simp only [Int.toNat_natCast, Nat.zero_add] at this; rw [← hbe, hn] at this; exact this)
       clear h
       refine gg (k := ?_)
       simp only [Int.toNat_natCast, Nat.zero_add]
       rw [hHj]
       refine gg (k := ?_)
       simp only [Int.toNat_natCast, Nat.zero_add]
       conv => whnf
       refine ⟨(0 : Int), ?_⟩
       conv => whnf
       refine And.intro ⟨rfl, rfl, by omega, ⟨rfl, trivial⟩, rfl, Nat.le_refl _, rfl⟩ ?_
       refine gg (k := ?_)
       refine back_at (j + 1, Hj.set j 0, uj - H.getD j 0) ⟨hjl, by rw [j2]; exact zapJ_yes _ _ _ _ (by omega) hx, by show uj - H.getD j 0 = (usedK M : Int) - (sumJ W H (UInt8.ofNat n) j + if W.getD j 0 = UInt8.ofNat n then H.getD j 0 else 0); rw [if_pos hx, j3]; omega⟩ (by show W.length - (j + 1) < W.length - j; omega) ?_ ?_
       ·exact no_implicit_lambda% ten
       ·exact no_implicit_lambda% hen
      ·have hx : W.getD j 0 ≠ UInt8.ofNat n := fun e => of_decide_eq_false h (by simp only [Int.toNat_natCast, Nat.zero_add]; rw [← hbe, hn]; exact (u8_eq _ hn8).2 e)
       clear h
       refine gg (k := ?_)
       refine back_at (j + 1, Hj, uj) ⟨hjl, by rw [j2]; exact (zapJ_no _ _ _ _ hx).symm, by show uj = (usedK M : Int) - (sumJ W H (UInt8.ofNat n) j + if W.getD j 0 = UInt8.ofNat n then H.getD j 0 else 0); rw [if_neg hx, j3]; omega⟩ (by show W.length - (j + 1) < W.length - j; omega) ?_ ?_
       ·exact no_implicit_lambda% ten
       ·exact no_implicit_lambda% hen
     ·have hjW : j = W.length := by have := of_decide_eq_false h; omega
      subst hjW
      clear h
      refine gg (k := ?_)
      simp only [Int.toNat_natCast]
      rw [← hbe, hn]
      refine gos (hA := ?_) (k := ?_)
      ·exact ⟨⟨⟨⟨rfl, ⟨rfl, trivial⟩, Nat.le_refl _, trivial⟩, by decide, by decide⟩, ⟨⟨⟨by omega, by omega⟩, trivial⟩, rfl, rfl⟩⟩, trivial⟩
      refine gg (k := ?_)
      conv => whnf
      refine ⟨[UInt8.ofNat n], ?_⟩
      conv => whnf
      refine And.intro ⟨rfl, ⟨rfl, rfl, Nat.le_refl _⟩, rfl, rfl, rfl, rfl, rfl, rfl, (by show (W.length + 1) * 1 ≤ _; omega), by decide⟩ ?_
      refine gg (k := ?_)
      conv => whnf
      refine ⟨Int, (fun n : Int => [AV.val (.int .i64 n)]), 0, Hj ++ [12 + (16 + ((2 : Nat) : Int)) + (52 + (N : Int))], ?_⟩
      conv => whnf
      refine And.intro ⟨rfl, ⟨rfl, rfl, Nat.le_refl _, fun q hq => ⟨rfl, trivial⟩⟩, rfl, rfl, rfl, hHl.symm, .inr rfl, (by rw [List.map_append]; rfl), (by show (Hj ++ [_]).length * 8 ≤ _; rw [List.length_append]; show (Hj.length + 1) * 8 ≤ _; omega), by decide⟩ ?_
      have hpv : PV (plV nm g0 3 (List.replicate N 0)) := plV_PV kr rfl (by decide) (by rw [List.length_replicate]; omega) kk
      have hrn := rcd_need hpv
      rw [hnd] at hrn
      have hsu := setM_used M (keyV nm g0) (laidV (plV nm g0 3 (List.replicate N 0)))
      have hsa := setM_same M (keyV nm g0) (laidV (plV nm g0 3 (List.replicate N 0)))
      have hso := setM_other M (keyV nm g0) (laidV (plV nm g0 3 (List.replicate N 0)))
      have hcn := c1 n hn8
      rw [hkn] at hsu hsa hso hPA hI2
      generalize laidV (plV nm g0 3 (List.replicate N 0)) = vl at hrn hsu hsa hso hPA hI2
      rw [hkn] at hrn
      generalize setM M (kK n) vl = M2 at hsu hsa hso hPA hI2
      have hu2 : uj + (12 + (16 + ((2 : Nat) : Int)) + (52 + (N : Int))) = (usedK M2 : Int) := by omega
      refine ggO (k := ?_)
      rw [hu2]
      refine ggO (k := ?_)
      refine cmks (hI2) Tryz.call11 7 [26, 27, 28, 29, 30, 24, 25] [0, 0, 0, 0, 0, 0, 0] [] ?_
      refine ggO (k := ?_)
      rw [decide_eq_true (rfl : (usedK M2 : Int) = (usedK M2 : Int))]
      refine ggO (k := ?_)
      have hh2 : ∀ v ∈ Hj ++ [12 + (16 + ((2 : Nat) : Int)) + (52 + (N : Int))], 0 ≤ v ∧ v ≤ 4000 := by
       intro v hv'
       rcases List.mem_append.1 hv' with q | q
       ·rw [j2] at q
        obtain ⟨a, ha, rfl⟩ := List.mem_map.1 q
        have haL := List.mem_range.1 ha
        split
        ·omega
        ·exact h1 _ (by rw [List.getD_eq_getElem?_getD, List.getElem?_eq_getElem haL]; exact List.getElem_mem _)
       ·rw [List.mem_singleton] at q
        subst q
        omega
      have hc2 : ∀ m, m < 8 → sumJ (W ++ [UInt8.ofNat n]) (Hj ++ [12 + (16 + ((2 : Nat) : Int)) + (52 + (N : Int))]) (UInt8.ofNat m) (W ++ [UInt8.ofNat n]).length = (usedK (M2.filter fun r => r.key == kK m) : Int) := by
       intro m hm
       have hsn := sumJ_next W H w1 (UInt8.ofNat n) (UInt8.ofNat m) (12 + (16 + ((2 : Nat) : Int)) + (52 + (N : Int)))
       rw [← w1, ← j2] at hsn
       rw [List.length_append]
       show sumJ _ _ _ (W.length + 1) = _
       rw [hsn]
       by_cases e : m = n
       ·subst e
        rw [if_pos rfl, hsa, hrn]
        omega
       ·rw [if_neg (fun q => e (by have q' := congrArg UInt8.toNat q; rw [UInt8.toNat_ofNat', UInt8.toNat_ofNat'] at q'; omega)), hso (kK m) (fun q => e (Fin.mk.inj (kN_inj ⟨m, hm⟩ ⟨n, hn8⟩ q)))]
        exact c1 m hm
      obtain ⟨W2, hW2⟩ : ∃ W2, W2 = W ++ [UInt8.ofNat n] := ⟨_, rfl⟩
      obtain ⟨H2, hH2⟩ : ∃ H2, H2 = Hj ++ [12 + (16 + ((2 : Nat) : Int)) + (52 + (N : Int))] := ⟨_, rfl⟩
      have lW : W2.length = W.length + 1 := by rw [hW2, List.length_append]; rfl
      have lH : H2.length = H.length + 1 := by rw [hH2, List.length_append, hHl]; rfl
      rw [← hW2, ← hH2] at hc2
      rw [← hH2] at hh2
      rw [← hH2, ← hW2, ← lW]
      refine back_at ⟨i + 1, s', M2, W2, H2⟩ ⟨hlt, hPA, by show W2.length = H2.length; omega, by show W2.length ≤ i + 1; omega, by show usedK M2 ≤ 4000 * (i + 1); omega, hh2, hc2⟩ (by show l.length - (i + 1) < l.length - i; omega) ?_ ?_
      ·exact no_implicit_lambda% ten
      ·exact no_implicit_lambda% hen
  ·refine gg (k := ?_)
   refine cmks (works23_vc) Tryz.call6 0 [] [] [] ?_
   refine gg (k := ?_)
   exact ⟨_, rfl, rfl, trivial⟩
end Go.Proofs.YtmjpbmcbcppkfaaGreatDoor
