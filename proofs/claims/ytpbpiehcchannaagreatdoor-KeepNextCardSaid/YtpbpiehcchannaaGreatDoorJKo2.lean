/- Next, from name to name; lintellaw21: names. What does answers; twin. Conditions: the premises of each law. -/
import Derived.Test.YtpbpiehcchannaaGreatDoorJKn
namespace Go.Proofs.YtpbpiehcchannaaGreatDoor
open Go.RowKit
set_option linter.unusedVariables false
set_option linter.unusedSimpArgs false
set_option maxRecDepth 100000
set_option maxHeartbeats 1500000
def kV (v : VarV) : List UInt8 := keyV v.nm v.g
theorem kV_vk {v : VarV} (h : VOk v) : isVK (kV v) = true := by
 unfold isVK kV keyV
 rw [List.drop_left' h.ok.g, strOf_toList, h.r, List.length_append, h.ok.g, Bool.and_true]
 exact decide_eq_true (Nat.le_add_right _ _)
theorem kV_cons {v : VarV} (h : VOk v) : ltB [] (kV v) = true := by
 have := (keyV_len h).1
 unfold kV
 cases hk : keyV v.nm v.g with
 | nil => rw [hk] at this; simp at this
 | cons a l => rfl
theorem srt_strict {keys : List (List UInt8)} (h : keys.Nodup) : (srtK keys).Pairwise fun x y => ltB x y = true := by
 have htr : ∀ (a b c : List UInt8), (!ltB b a) = true → (!ltB c b) = true → (!ltB c a) = true := by
  intro a b c h1 h2
  simp only [Bool.not_eq_true'] at h1 h2 ⊢
  cases q : ltB c a with
  | false => rfl
  | true =>
   cases q1 : ltB a b with
   | true => have := ltB_trans q q1; rw [this] at h2; cases h2
   | false =>
    have := ltB_tri a b q1 h1
    subst this
    rw [q] at h2; cases h2
 have htot : ∀ (a b : List UInt8), ((!ltB b a) || (!ltB a b)) = true := by
  intro a b
  cases q : ltB b a with
  | false => rfl
  | true => rw [ltB_asym q]; rfl
 have s1 := List.pairwise_mergeSort htr htot keys
 have hn : (srtK keys).Nodup := (List.mergeSort_perm keys _).nodup_iff.2 h
 rw [List.nodup_iff_pairwise_ne] at hn
 refine (s1.and hn).imp fun {a b} q => ?_
 obtain ⟨q1, q2⟩ := q
 simp only [Bool.not_eq_true'] at q1
 cases q3 : ltB a b with
 | true => rfl
 | false => exact absurd (ltB_tri a b q3 q1) q2
structure VS (M : List RK) (V : List VarV) : Prop where
 ks : srtK (M.map fun r => r.key) = V.map kV
 ok : ∀ v ∈ V, VOk v ∧ rcdV v ∈ M
 st : (V.map kV).Pairwise fun x y => ltB x y = true
theorem VS.of {M : List RK} (hn : (M.map fun r : RK => r.key).Nodup) (h : ∀ r ∈ M, ∃ v, VOk v ∧ r = rcdV v) : ∃ V, VS M V := by
 have hmem : ∀ k ∈ srtK (M.map fun r => r.key), ∃ v, VOk v ∧ rcdV v ∈ M ∧ kV v = k := by
  intro k hk
  have hk2 : k ∈ M.map fun r => r.key := (List.mergeSort_perm _ _).mem_iff.1 hk
  obtain ⟨r, hr, rfl⟩ := List.mem_map.1 hk2
  obtain ⟨v, hv, rfl⟩ := h r hr
  exact ⟨v, hv, hr, rfl⟩
 have hV : ∀ ks : List (List UInt8), (∀ k ∈ ks, ∃ v, VOk v ∧ rcdV v ∈ M ∧ kV v = k) → ∃ V : List VarV, ks = V.map kV ∧ ∀ v ∈ V, VOk v ∧ rcdV v ∈ M := by
  intro ks
  induction ks with
  | nil => exact fun _ => ⟨[], rfl, by simp⟩
  | cons k ks ih =>
   intro hks
   obtain ⟨v, h1, h2, h3⟩ := hks k (List.mem_cons_self ..)
   obtain ⟨V, h4, h5⟩ := ih fun x hx => hks x (List.mem_cons_of_mem _ hx)
   refine ⟨v :: V, by rw [List.map_cons, h3, h4], fun u hu => ?_⟩
   rcases List.mem_cons.1 hu with rfl | hu
   ·exact ⟨h1, h2⟩
   ·exact h5 u hu
 obtain ⟨V, h1, h2⟩ := hV _ hmem
 exact ⟨V, h1, h2, by rw [← h1]; exact srt_strict hn⟩
theorem find_next {ks : List (List UInt8)} (h : ks.Pairwise fun x y => ltB x y = true) (hv : ∀ k ∈ ks, isVK k = true) (i : Nat) (hi : i < ks.length) : nextK ks ks[i] = ks[i + 1]? := by
 obtain ⟨b, hb⟩ : ∃ b, b = ks[i] := ⟨_, rfl⟩
 rw [← hb]
 have h1 : (ks.take (i + 1)).find? (fun k => ltB b k && isVK k) = none := by
  rw [List.find?_eq_none]
  intro x hx
  obtain ⟨j, hj, rfl⟩ := List.getElem_of_mem hx
  rw [List.length_take] at hj
  rw [List.getElem_take]
  have hle : ltB b ks[j] = false := by
   rw [hb]
   rcases Nat.lt_or_ge j i with q | q
   ·exact ltB_asym (List.pairwise_iff_getElem.1 h j i (by omega) hi q)
   ·obtain rfl : j = i := by omega
    exact ltB_irr _
  rw [hle]; simp
 have h2 : nextK ks b = (ks.drop (i + 1)).find? (fun k => ltB b k && isVK k) := by
  unfold nextK
  have hs : ks = ks.take (i + 1) ++ ks.drop (i + 1) := (List.take_append_drop _ _).symm
  have := congrArg (List.find? (fun k => ltB b k && isVK k)) hs
  rw [List.find?_append, h1] at this
  exact this
 rw [h2]
 by_cases hl : i + 1 < ks.length
 ·rw [List.drop_eq_getElem_cons hl, List.find?_cons, hv _ (List.getElem_mem hl), hb, List.pairwise_iff_getElem.1 h i (i + 1) hi hl (by omega), List.getElem?_eq_getElem hl]
  rfl
 ·rw [List.drop_of_length_le (by omega), List.getElem?_eq_none (by omega)]
  rfl
theorem find_first {ks : List (List UInt8)} (hv : ∀ k ∈ ks, isVK k = true ∧ ltB [] k = true) : nextK ks [] = ks[0]? := by
 unfold nextK
 cases ks with
 | nil => rfl
 | cons k ks =>
  have := hv k (List.mem_cons_self ..)
  rw [List.find?_cons, this.1, this.2]
  rfl
def nmAt (V : List VarV) : Nat → ByteArray
 | 0 => ByteArray.empty
 | i + 1 => (V.getD i varZ).nm
def gAt (V : List VarV) : Nat → List UInt8
 | 0 => []
 | i + 1 => (V.getD i varZ).g
def nextV (V : List VarV) (i : Nat) : AV := match V[i]? with
 | some v => .tup [.val (.string v.nm), .agg (bytesA 16 v.g), .val (.int .i64 0)]
 | none => .tup [.val (.string ByteArray.empty), .agg (bytesA 16 []), .val (.int .i64 3)]
theorem nextA_key {ks : List (List UInt8)} {beh : List UInt8} {V : List VarV} {i : Nat} (hV : ∀ v ∈ V, VOk v) (h : nextK ks beh = (V.map kV)[i]?) : nextA ks beh = nextV V i := by
 unfold nextA nextV
 rw [h, List.getElem?_map]
 cases hv : V[i]? with
 | none => rfl
 | some v =>
  have := hV v (List.mem_of_getElem? hv)
  simp only [Option.map_some]
  unfold kV keyV
  rw [List.drop_left' this.ok.g, List.take_left' this.ok.g, strOf_toList]
theorem knext_at {W : Int} {n k : Nat} (s : FlS) (c : Nat) {M : List RK} (m : LK s c M) (go : Goes W n k s) (pa : Lies n k 0 c) (pb : Lies n k c c) {V : List VarV} (hS : VS M V) (hVl : V.length ≤ 1000) (i : Nat) (hi : i ≤ V.length) (vk vs va vb v0 v1 : Nat) : Spec Tryz.prog 45 [.ref 0 vk 1 0 0, .val (.string (nmAt V i)), .agg (bytesA 16 (gAt V i))] [⟨vk, .obj [.ref 1 vs 3 0 0]⟩, ⟨vs, .obj [.ref 4 v0 6 0 0, .ref 2 va 3 0 0, .ref 3 vb 3 0 0]⟩, ⟨va, .obj [.ref 4 v0 6 0 0, .val (.int .i64 ((0 : Nat) : Int)), .val (.int .i64 (c : Int))]⟩, ⟨vb, .obj [.ref 4 v0 6 0 0, .val (.int .i64 (c : Int)), .val (.int .i64 (c : Int))]⟩, ⟨v0, .obj [.own 5 v1 1 0 s.l.length, .val (.int .i64 (s.k : Int)), .val (.int .i64 s.ar), .val (.int .i64 s.pt), .val (.bool s.dd), .val (.int .i64 s.wr)]⟩, ⟨v1, .bytes s.l⟩]
   (pms (nextV V i) [⟨vk, .obj [.ref 1 vs 3 0 0]⟩, ⟨vs, .obj [.ref 4 v0 6 0 0, .ref 2 va 3 0 0, .ref 3 vb 3 0 0]⟩, ⟨va, .obj [.ref 4 v0 6 0 0, .val (.int .i64 ((0 : Nat) : Int)), .val (.int .i64 (c : Int))]⟩, ⟨vb, .obj [.ref 4 v0 6 0 0, .val (.int .i64 (c : Int)), .val (.int .i64 (c : Int))]⟩, ⟨v0, .obj [.own 5 v1 1 0 s.l.length, .val (.int .i64 (s.k : Int)), .val (.int .i64 s.ar), .val (.int .i64 s.pt), .val (.bool s.dd), .val (.int .i64 s.wr)]⟩, ⟨v1, .bytes s.l⟩] []) := by
 have hkl : ∀ k ∈ V.map kV, k.length ≤ 140737488355328 := by
  intro k hk
  obtain ⟨v, hv, rfl⟩ := List.mem_map.1 hk
  have := (keyV_len (hS.ok v hv).1).2
  unfold kV
  omega
 have hkn : (V.map kV).length ≤ 140737488355328 := by rw [List.length_map]; omega
 have hvk : ∀ k ∈ V.map kV, isVK k = true := by
  intro k hk
  obtain ⟨v, hv, rfl⟩ := List.mem_map.1 hk
  exact kV_vk (hS.ok v hv).1
 cases i with
 | zero =>
  have h := knext_any s c m go pa pb (V.map kV) hS.ks hkl hkn [] vk vs va vb v0 v1
  rw [nextA_key (i := 0) (fun v hv => (hS.ok v hv).1) (find_first fun k hk => ⟨hvk k hk, by
   obtain ⟨v, hv, rfl⟩ := List.mem_map.1 hk
   exact kV_cons (hS.ok v hv).1⟩)] at h
  exact h
 | succ i =>
  have hlt : i < V.length := hi
  have hv : V.getD i varZ = V[i] := by rw [List.getD_eq_getElem?_getD, List.getElem?_eq_getElem hlt]; rfl
  have hok := (hS.ok _ (List.getElem_mem hlt)).1
  have h := knext_vc s c m go pa pb (V.map kV) hS.ks hkl hkn V[i].nm hok.r V[i].g hok.ok.g vk vs va vb v0 v1
  have hf := find_next hS.st hvk i (by rw [List.length_map]; exact hlt)
  rw [List.getElem_map] at hf
  have hnk := nextA_key (i := i + 1) (fun v hv => (hS.ok v hv).1) hf
  unfold kV at hnk
  unfold kV at h
  rw [hnk] at h
  have e1 : nmAt V (i + 1) = V[i].nm := by show (V.getD i varZ).nm = _; rw [hv]
  have e2 : gAt V (i + 1) = V[i].g := by show (V.getD i varZ).g = _; rw [hv]
  rw [e1, e2]
  exact h
theorem nextV_on {P : Nat → Prop} (V : List VarV) (i : Nat) : onA P (nextV V i) := by
 unfold nextV
 split <;> (repeat' apply And.intro) <;> exact trivial
def nameV (v : VarV) : VarV := ⟨v.nm, v.g, 0, ⟨0, 0, 0, 0, 0, 0⟩, List.replicate 32 0, []⟩
theorem names21_raw {W : Int} {n k : Nat} (s : FlS) (c : Nat) {M : List RK} (m : LK s c M) (go : Goes W n k s) (pa : Lies n k 0 c) (pb : Lies n k c c) {V : List VarV} (hS : VS M V) (hVl : V.length ≤ 100) (vk vs va vb v0 v1 : Nat) : Spec Tryz.prog 42 [.ref 0 vk 1 0 0] [⟨vk, .obj [.ref 1 vs 3 0 0]⟩, ⟨vs, .obj [.ref 4 v0 6 0 0, .ref 2 va 3 0 0, .ref 3 vb 3 0 0]⟩, ⟨va, .obj [.ref 4 v0 6 0 0, .val (.int .i64 ((0 : Nat) : Int)), .val (.int .i64 (c : Int))]⟩, ⟨vb, .obj [.ref 4 v0 6 0 0, .val (.int .i64 (c : Int)), .val (.int .i64 (c : Int))]⟩, ⟨v0, .obj [.own 5 v1 1 0 s.l.length, .val (.int .i64 (s.k : Int)), .val (.int .i64 s.ar), .val (.int .i64 s.pt), .val (.bool s.dd), .val (.int .i64 s.wr)]⟩, ⟨v1, .bytes s.l⟩]
   (pms (.tup [.own 40 (V.length + 1) 57 0 V.length, .val (.bool true)]) [⟨vk, .obj [.ref 1 vs 3 0 0]⟩, ⟨vs, .obj [.ref 4 v0 6 0 0, .ref 2 va 3 0 0, .ref 3 vb 3 0 0]⟩, ⟨va, .obj [.ref 4 v0 6 0 0, .val (.int .i64 ((0 : Nat) : Int)), .val (.int .i64 (c : Int))]⟩, ⟨vb, .obj [.ref 4 v0 6 0 0, .val (.int .i64 (c : Int)), .val (.int .i64 (c : Int))]⟩, ⟨v0, .obj [.own 5 v1 1 0 s.l.length, .val (.int .i64 (s.k : Int)), .val (.int .i64 s.ar), .val (.int .i64 s.pt), .val (.bool s.dd), .val (.int .i64 s.wr)]⟩, ⟨v1, .bytes s.l⟩] [(40, ⟨V.length + 1, .row 57 (fun v : VarV => varA (.val (.slice none 0 0)) v) varZ (V.map nameV)⟩)]) := by
 have hnx := fun i hi => knext_at s c m go pa pb hS (by omega) i hi vk vs va vb v0 v1
 clear m hS
 refine spec_entry tbOk Tryz.func42 rfl Tryz.ntmps42 Tryz.results42 ?_
 refine gg (k := ?_)
 (refine sts (k := ?_))
 conv => whnf
 refine loop_le (leS_nil 40 1 (.row 57 (fun v : VarV => varA (.val (.slice none 0 0)) v) varZ []) rfl (by decide) rfl (t' := [.ref 0 vk 1 0 0, .any, .any, .any, .own 40 1 57 0 0, .val (.string ByteArray.empty), .ref 12 1 16 0 0, .val (.int .i64 0), .any, .any, .any, .any, .any, .any, .any, .any, .any, .any, .any, .any, .any, .any, .any, .any, .any, .any, .any, .any, .any, .any, .any, .any, .any, .any, .any, .any, .any, .any]) ?_) ?_
 ·simp [leTn, setD, setL, updH, evA, unA, getA, getL, constA, undefs, deads]
  rfl
 dsimp only [setL]
 refine loop_at (fun i : Nat => i ≤ V.length) (fun i => V.length - i) 6 [2, 3, 4, 5, 7, 8, 9, 10, 12, 13, 14, 15, 16, 17, 18, 19, 20, 21, 22, 23, 24, 25, 26, 27, 28, 29, 30, 31, 32, 33, 34, 35, 36] (fun i => [(4, .own 40 (i + 1) 57 0 i), (5, .val (.string (nmAt V i))), (7, .val (.int .i64 (i : Int)))])
  (fun i => [(40, ⟨i + 1, .row 57 (fun v : VarV => varA (.val (.slice none 0 0)) v) varZ ((V.take i).map nameV)⟩), (12, ⟨1, .obj (bytesA 16 (gAt V i))⟩)]) 0 (Nat.zero_le _) ?_ ?_ ?_
 ·exact no_implicit_lambda% ten
 ·exact no_implicit_lambda% hen
 ·rintro i v i1
  have hnxi := hnx i i1
  clear hnx
  refine glp (k := ?_)
  refine gg (k := ?_)
  rw [decide_eq_true (by omega : (i : Int) < 200)]
  refine gg (k := ?_)
  refine cmks (hnxi) Tryz.call45 (hon := rowu) (hX := nextV_on _ _) 6 [0, 1, 2, 3, 4, 5] [0, 0, 0, 0, 0, 0] [] ?_
  by_cases hlt : i < V.length
  ·have hge : V[i]? = some (V.getD i varZ) := by rw [List.getD_eq_getElem?_getD, List.getElem?_eq_getElem hlt]; rfl
   have hT : (V.take (i + 1)).map nameV = (V.take i).map nameV ++ [nameV (V.getD i varZ)] := by
    rw [List.take_succ_eq_append_getElem hlt, List.map_append, List.getD_eq_getElem?_getD, List.getElem?_eq_getElem hlt]; rfl
   have hTl : ((V.take i).map nameV).length = i := by rw [List.length_map, List.length_take]; omega
   have hTm : ((V.take (i + 1)).map nameV).length = i + 1 := by rw [List.length_map, List.length_take]; omega
   have e1 : nmAt V (i + 1) = (V.getD i varZ).nm := rfl
   have e2 : gAt V (i + 1) = (V.getD i varZ).g := rfl
   unfold nextV
   rw [hge]
   generalize V.getD i varZ = u at hT e1 e2
   simp only
   refine gg (k := ?_)
   conv => whnf
   refine ⟨VarV, (fun v : VarV => varA (.val (.slice none 0 0)) v), varZ, (V.take (i + 1)).map nameV, ?_⟩
   conv => whnf
   refine And.intro ⟨rfl, ⟨rfl, rfl, Nat.le_refl _, fun q hq => (by (have hq0 : q = 0 := by simpa using hq); subst hq0; ((repeat' apply And.intro) <;> first | exact trivial | exact rfl))⟩, rfl, rfl, rfl, hTl.symm, .inr rfl, (by rw [hT, List.map_append]; rfl), (by rw [hTm]; show (i + 1) * 104 ≤ _; omega), by decide⟩ ?_
   rw [hTm]
   refine gg (k := ?_)
   rw [← e1, ← e2]
   refine back_at (i + 1) hlt (by show V.length - (i + 1) < V.length - i; omega) ?_ ?_
   ·exact no_implicit_lambda% ten
   ·exact no_implicit_lambda% hen
  ·have hi : i = V.length := by omega
   unfold nextV
   rw [List.getElem?_eq_none (by omega)]
   simp only
   refine gg (k := ?_)
   subst hi
   rw [List.take_length]
   exact ⟨_, rfl, rfl, rfl, trivial⟩
theorem AFL.refl {mk : List (Nat × Ent)} (xs : List AV) : AFL mk xs xs := fun E E' H w vs _ _ hf h => reps_ext hf.ext xs vs h
theorem names21_vc {W : Int} {n k : Nat} (s : FlS) (c : Nat) {M : List RK} (m : LK s c M) (go : Goes W n k s) (pa : Lies n k 0 c) (pb : Lies n k c c) {V : List VarV} (hS : VS M V) (hVl : V.length ≤ 100) (vk vs va vb v0 v1 : Nat) : Spec Tryz.prog 42 [.ref 0 vk 1 0 0] [⟨vk, .obj [.ref 1 vs 3 0 0]⟩, ⟨vs, .obj [.ref 4 v0 6 0 0, .ref 2 va 3 0 0, .ref 3 vb 3 0 0]⟩, ⟨va, .obj [.ref 4 v0 6 0 0, .val (.int .i64 ((0 : Nat) : Int)), .val (.int .i64 (c : Int))]⟩, ⟨vb, .obj [.ref 4 v0 6 0 0, .val (.int .i64 (c : Int)), .val (.int .i64 (c : Int))]⟩, ⟨v0, .obj [.own 5 v1 1 0 s.l.length, .val (.int .i64 (s.k : Int)), .val (.int .i64 s.ar), .val (.int .i64 s.pt), .val (.bool s.dd), .val (.int .i64 s.wr)]⟩, ⟨v1, .bytes s.l⟩]
   (pms (.tup [.sl 0 57 (fun v : VarV => varA (.val (.slice none 0 0)) v) varZ (V.map nameV), .val (.bool true)]) [⟨vk, .obj [.ref 1 vs 3 0 0]⟩, ⟨vs, .obj [.ref 4 v0 6 0 0, .ref 2 va 3 0 0, .ref 3 vb 3 0 0]⟩, ⟨va, .obj [.ref 4 v0 6 0 0, .val (.int .i64 ((0 : Nat) : Int)), .val (.int .i64 (c : Int))]⟩, ⟨vb, .obj [.ref 4 v0 6 0 0, .val (.int .i64 (c : Int)), .val (.int .i64 (c : Int))]⟩, ⟨v0, .obj [.own 5 v1 1 0 s.l.length, .val (.int .i64 (s.k : Int)), .val (.int .i64 s.ar), .val (.int .i64 s.pt), .val (.bool s.dd), .val (.int .i64 s.wr)]⟩, ⟨v1, .bytes s.l⟩] []) :=
 spec_frz (names21_raw s c m go pa pb hS hVl vk vs va vb v0 v1) (by simp [geM]) (AF.tup (AFL.cons (AF.own_sl rfl (List.length_map ..).symm (List.length_map ..) fun i x y hx hy => by
  rw [hx] at hy; cases hy; exact AFL.refl _) (AFL.cons AF.same AFL.nil))) ⟨rfl, BF.same, rfl, BF.same, rfl, BF.same, rfl, BF.same, rfl, BF.same, rfl, BF.same, trivial⟩
end Go.Proofs.YtpbpiehcchannaaGreatDoor
namespace Go.Proofs.YtpbpiehcchannaaGreatDoor
open Go.RowKit
set_option linter.unusedVariables false
set_option linter.unusedSimpArgs false
set_option maxRecDepth 100000
set_option maxHeartbeats 1500000
end Go.Proofs.YtpbpiehcchannaaGreatDoor
