/- Walk of lintellaw21: KeepNext. Conditions: none. -/
import Derived.Test.YtpbpiehcchannaaGreatDoorJKd1
import Derived.Test.YtpbpiehcchannaaGreatDoorJKn
import Derived.Test.YtpbpiehcchannaaGreatDoorJKbz
namespace Go.Proofs.YtpbpiehcchannaaGreatDoor
open Go.RowKit
set_option linter.unusedVariables false
set_option linter.unusedSimpArgs false
set_option maxRecDepth 100000
set_option maxHeartbeats 3000000
theorem rightN_le {nm : ByteArray} (h : rightN nm = true) : nm.size ≤ 64 := by
 unfold rightN at h
 simp only [Bool.and_eq_true, decide_eq_true_eq] at h
 omega
theorem kget_ex {W : Int} {n k : Nat} (s : FlS) (c : Nat) {M : List RK} (m : LK s c M) (go : Goes W n k s) (pa : Lies n k 0 c) (pb : Lies n k c c) {V : List VarV} (hS : VS M V) (u : VarV) (hu : u.Ok) (vk vs va vb v0 v1 : Nat) : ∃ (v : VarV) (e : Int), Spec Tryz.prog 44 [.ref 0 vk 1 0 0, .val (.string u.nm), .agg (bytesA 16 u.g)] [⟨vk, .obj [.ref 1 vs 3 0 0]⟩, ⟨vs, .obj [.ref 4 v0 6 0 0, .ref 2 va 3 0 0, .ref 3 vb 3 0 0]⟩, ⟨va, .obj [.ref 4 v0 6 0 0, .val (.int .i64 ((0 : Nat) : Int)), .val (.int .i64 (c : Int))]⟩, ⟨vb, .obj [.ref 4 v0 6 0 0, .val (.int .i64 (c : Int)), .val (.int .i64 (c : Int))]⟩, ⟨v0, .obj [.own 5 v1 1 0 s.l.length, .val (.int .i64 (s.k : Int)), .val (.int .i64 s.ar), .val (.int .i64 s.pt), .val (.bool s.dd), .val (.int .i64 s.wr)]⟩, ⟨v1, .bytes s.l⟩]
   (pms (.tup [.agg (varA (.bs 0 v.d) v), .val (.bool (thereB V u.nm u.g V.length)), .val (.int .i64 e)]) [⟨vk, .obj [.ref 1 vs 3 0 0]⟩, ⟨vs, .obj [.ref 4 v0 6 0 0, .ref 2 va 3 0 0, .ref 3 vb 3 0 0]⟩, ⟨va, .obj [.ref 4 v0 6 0 0, .val (.int .i64 ((0 : Nat) : Int)), .val (.int .i64 (c : Int))]⟩, ⟨vb, .obj [.ref 4 v0 6 0 0, .val (.int .i64 (c : Int)), .val (.int .i64 (c : Int))]⟩, ⟨v0, .obj [.own 5 v1 1 0 s.l.length, .val (.int .i64 (s.k : Int)), .val (.int .i64 s.ar), .val (.int .i64 s.pt), .val (.bool s.dd), .val (.int .i64 s.wr)]⟩, ⟨v1, .bytes s.l⟩] []) := by
 have nil : ∀ {b : Bool} {e : Int}, Spec Tryz.prog 44 [.ref 0 vk 1 0 0, .val (.string u.nm), .agg (bytesA 16 u.g)] [⟨vk, .obj [.ref 1 vs 3 0 0]⟩, ⟨vs, .obj [.ref 4 v0 6 0 0, .ref 2 va 3 0 0, .ref 3 vb 3 0 0]⟩, ⟨va, .obj [.ref 4 v0 6 0 0, .val (.int .i64 ((0 : Nat) : Int)), .val (.int .i64 (c : Int))]⟩, ⟨vb, .obj [.ref 4 v0 6 0 0, .val (.int .i64 (c : Int)), .val (.int .i64 (c : Int))]⟩, ⟨v0, .obj [.own 5 v1 1 0 s.l.length, .val (.int .i64 (s.k : Int)), .val (.int .i64 s.ar), .val (.int .i64 s.pt), .val (.bool s.dd), .val (.int .i64 s.wr)]⟩, ⟨v1, .bytes s.l⟩] (pms (.tup [.agg (varA (.val (.slice none 0 0)) varZ), .val (.bool b), .val (.int .i64 e)]) [⟨vk, .obj [.ref 1 vs 3 0 0]⟩, ⟨vs, .obj [.ref 4 v0 6 0 0, .ref 2 va 3 0 0, .ref 3 vb 3 0 0]⟩, ⟨va, .obj [.ref 4 v0 6 0 0, .val (.int .i64 ((0 : Nat) : Int)), .val (.int .i64 (c : Int))]⟩, ⟨vb, .obj [.ref 4 v0 6 0 0, .val (.int .i64 (c : Int)), .val (.int .i64 (c : Int))]⟩, ⟨v0, .obj [.own 5 v1 1 0 s.l.length, .val (.int .i64 (s.k : Int)), .val (.int .i64 s.ar), .val (.int .i64 s.pt), .val (.bool s.dd), .val (.int .i64 s.wr)]⟩, ⟨v1, .bytes s.l⟩] []) →
     Spec Tryz.prog 44 [.ref 0 vk 1 0 0, .val (.string u.nm), .agg (bytesA 16 u.g)] [⟨vk, .obj [.ref 1 vs 3 0 0]⟩, ⟨vs, .obj [.ref 4 v0 6 0 0, .ref 2 va 3 0 0, .ref 3 vb 3 0 0]⟩, ⟨va, .obj [.ref 4 v0 6 0 0, .val (.int .i64 ((0 : Nat) : Int)), .val (.int .i64 (c : Int))]⟩, ⟨vb, .obj [.ref 4 v0 6 0 0, .val (.int .i64 (c : Int)), .val (.int .i64 (c : Int))]⟩, ⟨v0, .obj [.own 5 v1 1 0 s.l.length, .val (.int .i64 (s.k : Int)), .val (.int .i64 s.ar), .val (.int .i64 s.pt), .val (.bool s.dd), .val (.int .i64 s.wr)]⟩, ⟨v1, .bytes s.l⟩] (pms (.tup [.agg (varA (.bs 0 varZ.d) varZ), .val (.bool b), .val (.int .i64 e)]) [⟨vk, .obj [.ref 1 vs 3 0 0]⟩, ⟨vs, .obj [.ref 4 v0 6 0 0, .ref 2 va 3 0 0, .ref 3 vb 3 0 0]⟩, ⟨va, .obj [.ref 4 v0 6 0 0, .val (.int .i64 ((0 : Nat) : Int)), .val (.int .i64 (c : Int))]⟩, ⟨vb, .obj [.ref 4 v0 6 0 0, .val (.int .i64 (c : Int)), .val (.int .i64 (c : Int))]⟩, ⟨v0, .obj [.own 5 v1 1 0 s.l.length, .val (.int .i64 (s.k : Int)), .val (.int .i64 s.ar), .val (.int .i64 s.pt), .val (.bool s.dd), .val (.int .i64 s.wr)]⟩, ⟨v1, .bytes s.l⟩] []) := fun {b e} h =>
  spec_frz h (by simp [geM]) (AF.tup (AFL.cons (AF.agg (varA_AFL AF.nil varZ)) (AFL.cons AF.same (AFL.cons AF.same AFL.nil)))) ⟨rfl, BF.same, rfl, BF.same, rfl, BF.same, rfl, BF.same, rfl, BF.same, rfl, BF.same, trivial⟩
 cases hr : rightN u.nm with
 | false =>
  have hb : thereB V u.nm u.g V.length = false := Bool.eq_false_iff.2 fun q => by
   obtain ⟨v, hv, e1, _⟩ := thereB_all.1 q
   have := (hS.ok v hv).1.r
   rw [e1, hr] at this; cases this
  rw [hb]
  exact ⟨varZ, 1, nil (kget_badK s c u.nm hu.nm u.g hr vk vs va vb v0 v1)⟩
 | true =>
  by_cases q : ∃ v ∈ V, v.nm = u.nm ∧ v.g = u.g
  ·rw [thereB_all.2 q]
   obtain ⟨v, hv, e1, e2⟩ := q
   have h := kget_z s c m go pa pb v (hS.ok v hv).1 (hS.ok v hv).2 vk vs va vb v0 v1
   rw [e1, e2] at h
   exact ⟨v, 0, h⟩
  ·rw [Bool.eq_false_iff.2 fun p => q (thereB_all.1 p)]
   exact ⟨varZ, 0, nil (kget_no s c m go pa pb u.nm u.g hu.g hr (fun r hr' e => q ((hS.there hu.g).2 ⟨r, hr', e⟩)) vk vs va vb v0 v1)⟩
theorem law_keepnext (z : Int) (hz : 0 ≤ z ∧ z ≤ 65535) (l : List VarV) (hl : ∀ v ∈ l, v.Ok) (a : VarV) (ha : a.Ok) : Spec Tryz.prog 7 [.val (.int .u16 z), .sl 0 57 (fun v : VarV => varA (.bs 0 v.d) v) varZ l, .agg (varA (.bs 0 a.d) a)] [] (pms (.val (.bool true)) [] []) := by
 have hnm := ha.nm
 refine spec_entry tbOk Tryz.func7 rfl Tryz.ntmps7 Tryz.results7 ?_
 refine gg (k := ?_)
 refine cmks (long_vc l) Tryz.call39 (hon := ⟨fun a => varA_on (x := .bs 0 a.d) trivial a, trivial⟩) 0 [] [] [] ?_
 cases hlong : longB l with
 | true =>
  refine ggO (k := ?_)
  refine ⟨fun _ => ?_, fun h => absurd h (by simp)⟩
  refine ggO (k := ?_)
  (
 refine cmks (works21_vc) Tryz.call40 0 [] [] [] ?_
 refine ggO (k := ?_)
 exact ⟨_, rfl, rfl, trivial⟩)
 | false =>
  refine ggO (k := ?_)
  by_cases hbig : 4096 < a.nm.size
  ·rw [decide_eq_true (by omega : (4096 : Int) < (a.nm.size : Int))]
   refine ggO (k := ?_)
   (
 refine cmks (works21_vc) Tryz.call40 0 [] [] [] ?_
 refine ggO (k := ?_)
 exact ⟨_, rfl, rfl, trivial⟩)
  rw [decide_eq_false (by omega : ¬ (4096 : Int) < (a.nm.size : Int))]
  have hy := yOf_bd z
  have hl60 : l.length ≤ 60 := by
   unfold longB at hlong
   rw [Bool.or_eq_false_iff] at hlong
   have := of_decide_eq_false hlong.1
   omega
  obtain ⟨s1, h1, h0⟩ := new_NB hy
  obtain ⟨M, hNB, hM⟩ := fill_NB hy h0 l hl (by omega) l.length (Nat.le_refl _)
  have hnod : (M.map fun r : RK => r.key).Nodup := by
   obtain ⟨G, _, i, g, l', m, O, _, _, e, hN, _⟩ := hNB.ex
   unfold NodK at hN
   rw [e] at hN
   exact hN
  obtain ⟨V, hS⟩ := VS.of hnod hM
  have hVl : V.length ≤ 60 := by
   have e1 := congrArg List.length hS.ks
   rw [srtK_len, List.length_map, List.length_map] at e1
   have := hNB.len
   omega
  have la := lie0 hy
  have lb := lie1 hy
  have hgo := hNB.go
  have hlk := hNB.lk
  have hF := filled21_vc z hz s1 h1 h0 l hl (by omega)
  have hNM := names21_vc (fillV s1 l l.length) 1 hlk hgo la lb hS (by omega) 4 5 6 6 4 5
  have hGz := fun (v : VarV) (hv : v ∈ V) => kget_z (fillV s1 l l.length) 1 hlk hgo la lb v (hS.ok v hv).1 (hS.ok v hv).2 4 5 6 6 4 5
  have hGe := fun (u : VarV) (hu : u.Ok) => kget_ex (fillV s1 l l.length) 1 hlk hgo la lb hS u hu 4 5 6 6 4 5
  have hkl : ∀ k ∈ V.map kV, k.length ≤ 140737488355328 := by
   intro k hk
   obtain ⟨v, hv, rfl⟩ := List.mem_map.1 hk
   have := (keyV_len (hS.ok v hv).1).2
   unfold kV
   omega
  have hkn : (V.map kV).length ≤ 140737488355328 := by rw [List.length_map]; omega
  have hNa := fun (g : List UInt8) => knext_any (fillV s1 l l.length) 1 hlk hgo la lb (V.map kV) hS.ks hkl hkn g 4 5 6 6 4 5
  have hNr := fun (nm : ByteArray) (hr : rightN nm = true) (g : List UInt8) (hg : g.length = 16) => knext_vc (fillV s1 l l.length) 1 hlk hgo la lb (V.map kV) hS.ks hkl hkn nm hr g hg 4 5 6 6 4 5
  have hNb := fun (nm : ByteArray) (hn : nm.size ≤ 140737488355328) (hr : rightN nm = false) (hne : decide (nm.data.toList = []) = false) (g : List UInt8) => knext_bad (fillV s1 l l.length) 1 nm hn hr hne g 4 5 6 6 4 5
  generalize fillV s1 l l.length = s at hF hNM hGz hGe hNa hNr hNb
  refine ggO (k := ?_)
  refine cmks (hF) Tryz.call41 (hon := ⟨trivial, fun a => varA_on (x := .bs 0 a.d) trivial a, trivial⟩) 0 [0, 0, 0, 0, 0, 0, 0, 0, 0, 30, 31, 24, 26, 28, 0, 0, 0, 0, 0, 0, 0, 0, 0, 0, 0, 0, 0, 0, 0, 0, 0, 0, 0, 0, 0, 0, 0, 0, 29] [0, 0, 0, 0, 0, 0, 0, 0, 0, 1, 1, 1, 1, 1, 0, 0, 0, 0, 0, 0, 0, 0, 0, 0, 0, 0, 0, 0, 0, 0, 0, 0, 0, 0, 0, 0, 0, 0, 1] [11, 12, 13, 38, 9, 10] ?_
  refine ggO (k := ?_)
  refine cmks (hNM) Tryz.call42 (hX := ⟨fun a => varA_on (x := .val (.slice none 0 0)) trivial a, trivial, trivial⟩) 6 [24, 26, 28, 29, 30, 31] [0, 0, 0, 0, 0, 0] [] ?_
  refine ggO (k := ?_)
  (refine sts (k := ?_))
  conv => whnf
  refine loop_at (fun i : Nat => i ≤ V.length) (fun i => V.length - i) 0 [6, 10, 11, 12, 13, 45, 46, 47, 48, 49, 50, 51, 52, 53, 54, 55, 56, 57, 58, 59, 60, 61, 62, 63, 64, 65, 66, 67, 68, 69, 70, 71, 72, 73, 74, 75, 76, 77, 78, 79, 80, 81, 82, 83, 84, 85, 86, 87] (fun i => [(8, .sl 0 57 (fun v : VarV => varA (.val (.slice none 0 0)) v) varZ (V.map nameV)), (10, .val (.int .i64 (i : Int)))]) (fun i => []) 0 (Nat.zero_le _) ?_ ?_ ?_
  ·exact no_implicit_lambda% ten
  ·exact no_implicit_lambda% hen
  ·rintro i w i1
   refine glp (k := ?_)
   refine gg (k := ?_)
   refine ⟨fun h => ?_, fun h => ?_⟩
   ·have hlt : i < V.length := by have := of_decide_eq_true h; rw [List.length_map] at this; omega
    have hge : (V.map nameV).getD i varZ = nameV (V.getD i varZ) := by
     rw [List.getD_eq_getElem?_getD, List.getElem?_map, List.getD_eq_getElem?_getD, List.getElem?_eq_getElem hlt]; rfl
    have hvm : V.getD i varZ ∈ V := by rw [List.getD_eq_getElem?_getD, List.getElem?_eq_getElem hlt]; exact List.getElem_mem hlt
    have hG := hGz _ hvm
    have hlm : (V.map nameV).length = V.length := List.length_map ..
    have hlm0 : (V.map nameV).length = V.length := hlm
    refine gg (k := ?_)
    (refine sts (k := ?_))
    rcases Nat.eq_zero_or_pos i with h0 | h0
    ·subst h0
     refine draw_of (p := 0) tbOk hm [0, 1, 3, 7, 7, 23, 63, 127, 7, 7, 775, 1799, 4095, 8191, 16383] [⟨0, false, false, []⟩, ⟨1, false, false, []⟩, ⟨2, false, false, []⟩, ⟨3, false, false, []⟩, ⟨4, false, false, []⟩, ⟨5, false, false, []⟩, ⟨6, true, false, [58, 59, 60, 61, 62, 63, 64, 65]⟩, ⟨7, true, false, [59, 60, 61, 62, 63, 64, 65]⟩, ⟨8, false, false, []⟩, ⟨9, false, false, []⟩, ⟨10, true, false, [54, 55, 56, 57, 58, 62, 63, 64, 65]⟩, ⟨11, true, false, [54, 55, 56, 57, 58, 63, 64, 65]⟩, ⟨12, true, false, [64, 65]⟩, ⟨13, false, false, []⟩, ⟨14, false, false, []⟩] (by kernel_rfl) ?_
     refine ggO (k := ?_)
     intro _
     refine ggO (k := ?_)
     (
 (refine sts (k := ?_))
 refine draw_of (p := 0) tbOk hm [0, 0, 0, 6, 14, 30, 0, 0, 192, 448, 960, 2047, 4095, 8191, 8191, 8191, 0, 81919, 229375, 524287] [⟨0, false, false, []⟩, ⟨1, false, false, []⟩, ⟨2, false, false, []⟩, ⟨3, true, false, [67, 71, 72, 73, 74, 75, 76, 77, 78, 66, 79, 80, 81, 11, 12, 13]⟩, ⟨4, true, false, [67, 72, 73, 74, 75, 76, 77, 78, 66, 79, 80, 81, 11, 12, 13]⟩, ⟨5, true, false, [67, 73, 74, 75, 76, 77, 78, 66, 79, 80, 81, 11, 12, 13]⟩, ⟨6, false, false, []⟩, ⟨7, false, false, []⟩, ⟨8, true, false, [67, 68, 69, 70, 71, 72, 76, 77, 78, 66, 79, 80, 81, 11, 12, 13]⟩, ⟨9, true, false, [67, 68, 69, 70, 71, 72, 77, 78, 66, 79, 80, 81, 11, 12, 13]⟩, ⟨10, true, false, [67, 68, 69, 70, 71, 72, 78, 66, 79, 80, 81, 11, 12, 13]⟩, ⟨16, true, false, [67, 68, 69, 70, 71, 72, 73, 74, 75, 76, 77, 78, 66, 79, 80, 81, 12, 13]⟩, ⟨11, true, false, [66, 79, 80, 81, 11, 12, 13]⟩, ⟨12, false, false, []⟩, ⟨13, false, false, []⟩, ⟨14, false, false, []⟩, ⟨15, false, false, []⟩, ⟨17, true, true, [80, 81, 12, 13]⟩, ⟨18, false, false, []⟩, ⟨19, false, false, []⟩] (by kernel_rfl) ?_
 refine ggO (k := ?_)
 simp only [Int.toNat_natCast, hge]
 refine cmks (hG) Tryz.call44 (hon := rowu) 6 [24, 26, 28, 29, 30, 31] [0, 0, 0, 0, 0, 0] [] ?_
 conv => whnf
 refine And.intro ⟨.inr rfl, .inr rfl, .inr rfl, .inr rfl, .inr rfl, .inr rfl, trivial⟩ ?_
 refine ggO (k := ?_)
 refine back_at (0 + 1) hlt (by show V.length - (0 + 1) < V.length - 0; omega) ?_ ?_
 ·exact no_implicit_lambda% ten
 ·exact no_implicit_lambda% hen)
    ·have hvm1 : V.getD (i - 1) varZ ∈ V := by rw [List.getD_eq_getElem?_getD, List.getElem?_eq_getElem (by omega : i - 1 < V.length)]; exact List.getElem_mem (by omega)
     have hge1 : (V.map nameV).getD ((i : Int) - 1).toNat varZ = nameV (V.getD (i - 1) varZ) := by
      rw [show ((i : Int) - 1).toNat = i - 1 by omega, List.getD_eq_getElem?_getD, List.getElem?_map, List.getD_eq_getElem?_getD, List.getElem?_eq_getElem (by omega)]; rfl
     have hok1 := (hS.ok _ hvm1).1
     have hok2 := (hS.ok _ hvm).1
     have hz1 := (keyV_len hok1).2
     have hz2 := (keyV_len hok2).2
     have hg1 : (nameV (V.getD (i - 1) varZ)).g.length = 16 := hok1.ok.g
     have hg2 : (nameV (V.getD i varZ)).g.length = 16 := hok2.ok.g
     have hn1 : (nameV (V.getD (i - 1) varZ)).nm.size ≤ 1000000 := by have := rightN_le hok1.r; show (V.getD (i - 1) varZ).nm.size ≤ _; omega
     have hn2 : (nameV (V.getD i varZ)).nm.size ≤ 1000000 := by have := rightN_le hok2.r; show (V.getD i varZ).nm.size ≤ _; omega
     have hst : ltB (kV (V.getD (i - 1) varZ)) (kV (V.getD i varZ)) = true := by
      have := List.pairwise_iff_getElem.1 hS.st (i - 1) i (by rw [List.length_map]; omega) (by rw [List.length_map]; omega) (by omega)
      rw [List.getElem_map, List.getElem_map] at this
      rw [List.getD_eq_getElem?_getD, List.getD_eq_getElem?_getD, List.getElem?_eq_getElem (by omega), List.getElem?_eq_getElem hlt]
      exact this
     clear hok1 hok2 hz1 hz2
     refine draw_of (p := 0) tbOk hm [0, 1, 3, 7, 7, 23, 63, 127, 7, 7, 775, 1799, 4095, 8191, 16383] [⟨0, false, false, []⟩, ⟨1, false, false, []⟩, ⟨2, false, false, []⟩, ⟨3, false, false, []⟩, ⟨4, false, false, []⟩, ⟨5, false, false, []⟩, ⟨6, true, false, [58, 59, 60, 61, 62, 63, 64, 65]⟩, ⟨7, true, false, [59, 60, 61, 62, 63, 64, 65]⟩, ⟨8, false, false, []⟩, ⟨9, false, false, []⟩, ⟨10, true, false, [54, 55, 56, 57, 58, 62, 63, 64, 65]⟩, ⟨11, true, false, [54, 55, 56, 57, 58, 63, 64, 65]⟩, ⟨12, true, false, [64, 65]⟩, ⟨13, false, false, []⟩, ⟨14, false, false, []⟩] (by kernel_rfl) ?_
     refine ggO (k := ?_)
     rw [decide_eq_true (by omega : (0 : Int) < (i : Int))]
     simp only [Int.toNat_natCast, hge, hge1]
     conv => whnf
     refine gcl (hA := fun hG => ⟨trivial, trivial, trivial, trivial⟩) (k := ?_)
     refine cmks (ahead_nn (nameV (V.getD (i - 1) varZ)) (nameV (V.getD i varZ)) hg1 hg2 hn1 hn2) Tryz.call43 (hon := ⟨varA_on (x := .val (.slice none 0 0)) trivial _, varA_on (x := .val (.slice none 0 0)) trivial _, trivial⟩) 0 [] [] [] ?_
     rw [show ltB (keyV (nameV (V.getD (i - 1) varZ)).nm (nameV (V.getD (i - 1) varZ)).g) (keyV (nameV (V.getD i varZ)).nm (nameV (V.getD i varZ)).g) = true from hst]
     refine ggO (k := ?_)
     (
 (refine sts (k := ?_))
 refine draw_of (p := 0) tbOk hm [0, 0, 0, 6, 14, 30, 0, 0, 192, 448, 960, 2047, 4095, 8191, 8191, 8191, 0, 81919, 229375, 524287] [⟨0, false, false, []⟩, ⟨1, false, false, []⟩, ⟨2, false, false, []⟩, ⟨3, true, false, [67, 71, 72, 73, 74, 75, 76, 77, 78, 66, 79, 80, 81, 11, 12, 13]⟩, ⟨4, true, false, [67, 72, 73, 74, 75, 76, 77, 78, 66, 79, 80, 81, 11, 12, 13]⟩, ⟨5, true, false, [67, 73, 74, 75, 76, 77, 78, 66, 79, 80, 81, 11, 12, 13]⟩, ⟨6, false, false, []⟩, ⟨7, false, false, []⟩, ⟨8, true, false, [67, 68, 69, 70, 71, 72, 76, 77, 78, 66, 79, 80, 81, 11, 12, 13]⟩, ⟨9, true, false, [67, 68, 69, 70, 71, 72, 77, 78, 66, 79, 80, 81, 11, 12, 13]⟩, ⟨10, true, false, [67, 68, 69, 70, 71, 72, 78, 66, 79, 80, 81, 11, 12, 13]⟩, ⟨16, true, false, [67, 68, 69, 70, 71, 72, 73, 74, 75, 76, 77, 78, 66, 79, 80, 81, 12, 13]⟩, ⟨11, true, false, [66, 79, 80, 81, 11, 12, 13]⟩, ⟨12, false, false, []⟩, ⟨13, false, false, []⟩, ⟨14, false, false, []⟩, ⟨15, false, false, []⟩, ⟨17, true, true, [80, 81, 12, 13]⟩, ⟨18, false, false, []⟩, ⟨19, false, false, []⟩] (by kernel_rfl) ?_
 refine ggO (k := ?_)
 simp only [Int.toNat_natCast, hge]
 refine cmks (hG) Tryz.call44 (hon := rowu) 6 [24, 26, 28, 29, 30, 31] [0, 0, 0, 0, 0, 0] [] ?_
 conv => whnf
 refine And.intro ⟨.inr rfl, .inr rfl, .inr rfl, .inr rfl, .inr rfl, .inr rfl, trivial⟩ ?_
 refine ggO (k := ?_)
 refine back_at (i + 1) hlt (by show V.length - (i + 1) < V.length - i; omega) ?_ ?_
 ·exact no_implicit_lambda% ten
 ·exact no_implicit_lambda% hen)
   ·have hi : i = V.length := by
      have := of_decide_eq_false h
      rw [List.length_map] at this
      omega
    clear hGz hF hNM
    refine gg (k := ?_)
    (refine sts (k := ?_))
    conv => whnf
    refine loop_at (fun i : Nat => i ≤ l.length) (fun i => l.length - i) 0 [6, 14, 15, 16, 17, 18, 19, 88, 89, 90, 91, 92, 93, 94, 95, 96, 97, 98, 99, 100, 101, 102, 103, 104, 105, 106, 107, 108, 109, 110, 111, 112, 113, 114, 115, 116, 117, 118, 119, 120, 121, 122, 123, 124, 125, 126, 127, 128, 129, 130, 131, 132, 133, 134, 135, 136, 137, 138, 139, 140, 141, 142, 143, 144, 145] (fun i => [(14, .val (.int .i64 (i : Int)))]) (fun i => []) 0 (Nat.zero_le _) ?_ ?_ ?_
    ·exact no_implicit_lambda% ten
    ·exact no_implicit_lambda% hen
    ·rintro i w2 i1
     refine glp (k := ?_)
     refine gg (k := ?_)
     refine ⟨fun h => ?_, fun h => ?_⟩
     ·have hlt : i < l.length := by have := of_decide_eq_true h; omega
      have hvo : (l.getD i varZ).Ok := by rw [List.getD_eq_getElem?_getD, List.getElem?_eq_getElem hlt]; exact hl _ (List.getElem_mem hlt)
      obtain ⟨u, hu⟩ : ∃ u, l.getD i varZ = u := ⟨_, rfl⟩
      rw [hu] at hvo
      obtain ⟨v, e, hG⟩ := hGe u hvo
      have hB0 : thereB V u.nm u.g 0 = false := rfl
      refine gg (k := ?_)
      (refine sts (k := ?_))
      refine draw_of (p := 0) tbOk hm [0, 0, 0, 6, 14, 30, 0, 0, 192, 448, 960, 2047, 4095, 8191, 8191, 8191, 0, 81919, 229375, 524287] [⟨0, false, false, []⟩, ⟨1, false, false, []⟩, ⟨2, false, false, []⟩, ⟨3, true, false, [95, 99, 100, 101, 102, 103, 104, 105, 106, 94, 107, 108, 109, 15, 16, 17]⟩, ⟨4, true, false, [95, 100, 101, 102, 103, 104, 105, 106, 94, 107, 108, 109, 15, 16, 17]⟩, ⟨5, true, false, [95, 101, 102, 103, 104, 105, 106, 94, 107, 108, 109, 15, 16, 17]⟩, ⟨6, false, false, []⟩, ⟨7, false, false, []⟩, ⟨8, true, false, [95, 96, 97, 98, 99, 100, 104, 105, 106, 94, 107, 108, 109, 15, 16, 17]⟩, ⟨9, true, false, [95, 96, 97, 98, 99, 100, 105, 106, 94, 107, 108, 109, 15, 16, 17]⟩, ⟨10, true, false, [95, 96, 97, 98, 99, 100, 106, 94, 107, 108, 109, 15, 16, 17]⟩, ⟨16, true, false, [95, 96, 97, 98, 99, 100, 101, 102, 103, 104, 105, 106, 94, 107, 108, 109, 16, 17]⟩, ⟨11, true, false, [94, 107, 108, 109, 15, 16, 17]⟩, ⟨12, false, false, []⟩, ⟨13, false, false, []⟩, ⟨14, false, false, []⟩, ⟨15, false, false, []⟩, ⟨17, true, true, [108, 109, 16, 17]⟩, ⟨18, false, false, []⟩, ⟨19, false, false, []⟩] (by kernel_rfl) ?_
      refine ggO (k := ?_)
      simp only [Int.toNat_natCast, hu]
      refine cmks (hG) Tryz.call44 (hon := rowu) 6 [24, 26, 28, 29, 30, 31] [0, 0, 0, 0, 0, 0] [] ?_
      conv => whnf
      refine And.intro ⟨.inr rfl, .inr rfl, .inr rfl, .inr rfl, .inr rfl, .inr rfl, trivial⟩ ?_
      refine ggO (k := ?_)
      (refine sts (k := ?_))
      conv => whnf
      refine loop_at (fun k : Nat => k ≤ V.length) (fun k => V.length - k) 0 [18, 19, 110, 111, 112, 113, 114, 115, 116, 117, 118, 119, 120, 121, 122, 123, 124, 125, 126, 127, 128, 129, 130, 131, 132, 133, 134, 135, 136, 137, 138, 139, 140, 141, 142] (fun k => [(18, .val (.bool (thereB V u.nm u.g k))), (19, .val (.int .i64 (k : Int)))]) (fun k => [(15, ⟨w2 15 + 1, .dead⟩)]) 0 (Nat.zero_le _) ?_ ?_ ?_
      ·exact no_implicit_lambda% ten
      ·exact no_implicit_lambda% hen
      ·rintro k w3 k1
       refine glp (k := ?_)
       refine gg (k := ?_)
       refine ⟨fun h => ?_, fun h => ?_⟩
       ·have klt : k < V.length := by have := of_decide_eq_true h; rw [List.length_map] at this; omega
        have hge : (V.map nameV).getD k varZ = nameV (V.getD k varZ) := by
         rw [List.getD_eq_getElem?_getD, List.getElem?_map, List.getD_eq_getElem?_getD, List.getElem?_eq_getElem klt]; rfl
        have hvm : V.getD k varZ ∈ V := by rw [List.getD_eq_getElem?_getD, List.getElem?_eq_getElem klt]; exact List.getElem_mem klt
        have hok := (hS.ok _ hvm).1
        have hsu := thereB_succ (nm := u.nm) (g := u.g) klt
        have hlm : (V.map nameV).length = V.length := List.length_map ..
        refine gg (k := ?_)
        (refine sts (k := ?_))
        refine draw_of (p := 0) tbOk hm [0, 1, 3, 3, 15, 31, 63, 3, 3, 387, 899, 1923, 4095, 8191, 16383, 16383, 65535, 131071, 262143, 16383, 16383, 1589247, 3686399, 7880703, 16777215, 33554431, 67108863, 134217727] [⟨0, false, false, []⟩, ⟨1, false, false, []⟩, ⟨2, false, false, []⟩, ⟨3, false, false, []⟩, ⟨4, true, false, [121, 122, 123, 124, 125, 126, 127, 128, 129, 130, 131, 132, 133, 134, 135, 136, 137, 138, 139, 140, 141, 142, 18]⟩, ⟨5, true, false, [122, 123, 124, 125, 126, 127, 128, 129, 130, 131, 132, 133, 134, 135, 136, 137, 138, 139, 140, 141, 142, 18]⟩, ⟨6, true, false, [123, 124, 125, 126, 127, 128, 129, 130, 131, 132, 133, 134, 135, 136, 137, 138, 139, 140, 141, 142, 18]⟩, ⟨7, false, false, []⟩, ⟨8, false, false, []⟩, ⟨9, true, false, [118, 119, 120, 121, 122, 126, 127, 128, 129, 130, 131, 132, 133, 134, 135, 136, 137, 138, 139, 140, 141, 142, 18]⟩, ⟨10, true, false, [118, 119, 120, 121, 122, 127, 128, 129, 130, 131, 132, 133, 134, 135, 136, 137, 138, 139, 140, 141, 142, 18]⟩, ⟨11, true, false, [118, 119, 120, 121, 122, 128, 129, 130, 131, 132, 133, 134, 135, 136, 137, 138, 139, 140, 141, 142, 18]⟩, ⟨12, false, false, []⟩, ⟨13, false, false, []⟩, ⟨14, false, false, []⟩, ⟨15, false, false, []⟩, ⟨16, true, false, [133, 134, 135, 136, 137, 138, 139, 140, 141, 142, 18]⟩, ⟨17, true, false, [134, 135, 136, 137, 138, 139, 140, 141, 142, 18]⟩, ⟨18, true, false, [135, 136, 137, 138, 139, 140, 141, 142, 18]⟩, ⟨19, false, false, []⟩, ⟨20, false, false, []⟩, ⟨21, true, false, [130, 131, 132, 133, 134, 138, 139, 140, 141, 142, 18]⟩, ⟨22, true, false, [130, 131, 132, 133, 134, 139, 140, 141, 142, 18]⟩, ⟨23, true, false, [130, 131, 132, 133, 134, 140, 141, 142, 18]⟩, ⟨24, false, false, []⟩, ⟨25, false, false, []⟩, ⟨26, false, false, []⟩, ⟨27, false, false, []⟩] (by kernel_rfl) ?_
        refine ggO (k := ?_)
        generalize hx : (V.map nameV).getD (Int.toNat (k : Int)) varZ = x
        generalize hy : l.getD (Int.toNat (i : Int)) varZ = y
        have hx' : nameV (V.getD k varZ) = x := by rw [← hx, Int.toNat_natCast, hge]
        have hy' : u = y := by rw [← hy, Int.toNat_natCast, hu]
        subst hx'
        subst hy'
        rw [show (thereB V u.nm u.g k || (decide ((nameV (V.getD k varZ)).nm.data.toList = u.nm.data.toList) && eqVs [bv ((nameV (V.getD k varZ)).g.getD 0 0), bv ((nameV (V.getD k varZ)).g.getD 1 0), bv ((nameV (V.getD k varZ)).g.getD 2 0), bv ((nameV (V.getD k varZ)).g.getD 3 0), bv ((nameV (V.getD k varZ)).g.getD 4 0), bv ((nameV (V.getD k varZ)).g.getD 5 0), bv ((nameV (V.getD k varZ)).g.getD 6 0), bv ((nameV (V.getD k varZ)).g.getD 7 0), bv ((nameV (V.getD k varZ)).g.getD 8 0), bv ((nameV (V.getD k varZ)).g.getD 9 0), bv ((nameV (V.getD k varZ)).g.getD 10 0), bv ((nameV (V.getD k varZ)).g.getD 11 0), bv ((nameV (V.getD k varZ)).g.getD 12 0), bv ((nameV (V.getD k varZ)).g.getD 13 0), bv ((nameV (V.getD k varZ)).g.getD 14 0), bv ((nameV (V.getD k varZ)).g.getD 15 0)] [bv (u.g.getD 0 0), bv (u.g.getD 1 0), bv (u.g.getD 2 0), bv (u.g.getD 3 0), bv (u.g.getD 4 0), bv (u.g.getD 5 0), bv (u.g.getD 6 0), bv (u.g.getD 7 0), bv (u.g.getD 8 0), bv (u.g.getD 9 0), bv (u.g.getD 10 0), bv (u.g.getD 11 0), bv (u.g.getD 12 0), bv (u.g.getD 13 0), bv (u.g.getD 14 0), bv (u.g.getD 15 0)])) = thereB V u.nm u.g (k + 1) from by rw [hsu]; exact congrArg (thereB V u.nm u.g k || ·) (ng_eq (V.getD k varZ).nm u.nm (V.getD k varZ).g u.g hok.ok.g hvo.g)]
        refine back_at (k + 1) klt (by show V.length - (k + 1) < V.length - k; omega) ?_ ?_
        ·exact no_implicit_lambda% ten
        ·exact no_implicit_lambda% hen
       ·have hk : k = V.length := by have := of_decide_eq_false h; rw [List.length_map] at this; omega
        subst hk
        refine ggO (k := ?_)
        refine back_at (i + 1) hlt (by show l.length - (i + 1) < l.length - i; omega) ?_ ?_
        ·exact no_implicit_lambda% ten
        ·exact no_implicit_lambda% hen
     ·have hi : i = l.length := by have := of_decide_eq_false h; omega
      clear hGe
      refine ggO (k := ?_)
      by_cases hem : a.nm.data.toList = []
      ·have hem' : a.nm = ByteArray.empty := by rw [← strOf_toList a.nm, hem]; rfl
       have hN := hNa a.g
       rw [← hem'] at hN
       obtain ⟨x1, x2, x3, hx⟩ := nextA_tup (V.map kV) []
       rw [hx] at hN
       have hdn : decide (a.nm.data.toList = []) = true := decide_eq_true hem
       (
 refine cmks (hN) Tryz.call45 (hon := rowu) (hX := rowu) 6 [24, 26, 28, 29, 30, 31] [0, 0, 0, 0, 0, 0] [] ?_
 refine ggO (k := ?_))
       rw [hdn]
       refine ⟨fun _ => ?_, fun h => absurd h (by simp)⟩
       refine ggO (k := ?_)
       (
 refine cmks (works21_vc) Tryz.call40 0 [] [] [] ?_
 refine ggO (k := ?_)
 exact ⟨_, rfl, rfl, trivial⟩)
      have hdn : decide (a.nm.data.toList = []) = false := decide_eq_false hem
      cases hr : rightN a.nm with
      | false =>
       have hN := hNb a.nm hnm hr hdn a.g
       (
 refine cmks (hN) Tryz.call45 (hon := rowu) (hX := rowu) 6 [24, 26, 28, 29, 30, 31] [0, 0, 0, 0, 0, 0] [] ?_
 refine ggO (k := ?_))
       rw [hdn]
       refine ⟨fun _ => ?_, fun h => absurd h (by simp)⟩
       refine ggO (k := ?_)
       (
 refine cmks (works21_vc) Tryz.call40 0 [] [] [] ?_
 refine ggO (k := ?_)
 exact ⟨_, rfl, rfl, trivial⟩)
      | true =>
       have hN := hNr a.nm hr a.g ha.g
       rcases nextA_first (keyV a.nm a.g) (V := V) (fun v hv => (hS.ok v hv).1) with ⟨j, j1, j2, j3, j4⟩ | ⟨j1, j2⟩
       ·rw [j2] at hN
        (
 refine cmks (hN) Tryz.call45 (hon := rowu) (hX := rowu) 6 [24, 26, 28, 29, 30, 31] [0, 0, 0, 0, 0, 0] [] ?_
 refine ggO (k := ?_))
        rw [hdn]
        refine ⟨fun h => absurd h (by decide), fun _ => ?_⟩
        clear hNa hNr hNb hN
        refine ggO (k := ?_)
        (
 (refine sts (k := ?_))
 conv => whnf
 refine loop_at (fun i : Nat => i ≤ j) (fun i => j - i) 0 [6, 23, 164, 165, 166, 167, 168, 169, 170, 171, 172, 173, 174, 175, 176, 177, 178, 179, 180, 181, 182, 183, 184, 185, 186, 187, 188, 189, 190, 191, 192, 193, 194, 195, 196, 197, 198] (fun i => [(8, .sl 0 57 (fun v : VarV => varA (.val (.slice none 0 0)) v) varZ (V.map nameV)), (23, .val (.int .i64 (i : Int)))]) (fun i => [(21, ⟨1, .obj (bytesA 16 (V.getD j varZ).g)⟩)]) 0 (Nat.zero_le _) ?_ ?_ ?_
 ·exact no_implicit_lambda% ten
 ·exact no_implicit_lambda% hen)
        ·rintro i w5 i1
         have hlt : i < V.length := by omega
         (
 have hgei : (V.map nameV).getD i varZ = nameV (V.getD i varZ) := by
  rw [List.getD_eq_getElem?_getD, List.getElem?_map, List.getD_eq_getElem?_getD, List.getElem?_eq_getElem hlt]; rfl
 have hvm : V.getD i varZ ∈ V := by rw [List.getD_eq_getElem?_getD, List.getElem?_eq_getElem hlt]; exact List.getElem_mem hlt
 have hok := (hS.ok _ hvm).1
 have hg2 : (nameV (V.getD i varZ)).g.length = 16 := hok.ok.g
 have hn2 : (nameV (V.getD i varZ)).nm.size ≤ 1000000 := by have := rightN_le hok.r; show (V.getD i varZ).nm.size ≤ _; omega
 have hlm : (V.map nameV).length = V.length := List.length_map ..
 refine glp (k := ?_)
 refine gg (k := ?_)
 rw [show decide ((i : Int) < ((V.map nameV).length : Int)) = true from decide_eq_true (by rw [List.length_map]; omega)]
 refine ggO (k := ?_)
 (refine sts (k := ?_))
 refine draw_of (p := 0) tbOk hm [0, 0, 0, 6, 14, 31] [⟨0, true, false, [171, 172, 173, 174, 175]⟩, ⟨1, false, false, []⟩, ⟨2, false, false, []⟩, ⟨3, true, false, [170, 174, 175]⟩, ⟨4, true, false, [170, 175]⟩, ⟨5, true, false, []⟩] (by kernel_rfl) ?_
 refine ggO (k := ?_)
 simp only [Int.toNat_natCast, hgei]
 refine cmks (ahead_bn a (nameV (V.getD i varZ)) a.d ha.g hg2 (by omega) hn2) Tryz.call43 (hon := ⟨varA_on (x := .bs 0 a.d) trivial _, varA_on (x := .val (.slice none 0 0)) trivial _, trivial⟩) 0 [] [] [] ?_)
         rcases Nat.lt_or_ge i j with hij | hij
         ·rw [show ltB (keyV a.nm a.g) (keyV (nameV (V.getD i varZ)).nm (nameV (V.getD i varZ)).g) = false from j4 i hij]
          refine ggO (k := ?_)
          refine back_at (i + 1) hij (by show j - (i + 1) < j - i; omega) ?_ ?_
          ·exact no_implicit_lambda% ten
          ·exact no_implicit_lambda% hen
         ·obtain rfl : i = j := by omega
          rw [show ltB (keyV a.nm a.g) (keyV (nameV (V.getD i varZ)).nm (nameV (V.getD i varZ)).g) = true from j3]
          refine ggO (k := ?_)
          (refine sts (k := ?_))
          refine draw_of (p := 0) tbOk hm [0, 1, 3, 7, 7, 7, 55, 119, 247, 511, 1023, 2047, 4095, 4095, 4095, 28671, 61439, 126975, 262143, 524287, 1048575, 2097151, 4194303, 8388607] [⟨0, false, false, []⟩, ⟨1, false, false, []⟩, ⟨2, false, false, []⟩, ⟨3, false, false, []⟩, ⟨4, false, false, []⟩, ⟨5, false, false, []⟩, ⟨6, true, false, [179, 183, 184, 185, 186, 187, 188, 189, 190, 191, 192, 193, 194, 195, 196, 197, 198, 6]⟩, ⟨7, true, false, [179, 184, 185, 186, 187, 188, 189, 190, 191, 192, 193, 194, 195, 196, 197, 198, 6]⟩, ⟨8, true, false, [179, 185, 186, 187, 188, 189, 190, 191, 192, 193, 194, 195, 196, 197, 198, 6]⟩, ⟨9, false, false, []⟩, ⟨10, false, false, []⟩, ⟨11, false, false, []⟩, ⟨12, true, false, [189, 190, 191, 192, 193, 194, 195, 196, 197, 198, 6]⟩, ⟨13, false, false, []⟩, ⟨14, false, false, []⟩, ⟨15, true, false, [188, 192, 193, 194, 195, 196, 197, 198, 6]⟩, ⟨16, true, false, [188, 193, 194, 195, 196, 197, 198, 6]⟩, ⟨17, true, false, [188, 194, 195, 196, 197, 198, 6]⟩, ⟨18, false, false, []⟩, ⟨19, false, false, []⟩, ⟨20, false, false, []⟩, ⟨21, true, false, [198, 6]⟩, ⟨22, false, false, []⟩, ⟨23, false, false, []⟩] (by kernel_rfl) ?_
          refine ggO (k := ?_)
          generalize hx : (V.map nameV).getD (Int.toNat (i : Int)) varZ = x
          have hx' : nameV (V.getD i varZ) = x := by rw [← hx, Int.toNat_natCast, hgei]
          subst hx'
          rw [show (decide ((0 : Int) = 0) && decide ((V.getD i varZ).nm.data.toList = (nameV (V.getD i varZ)).nm.data.toList) && eqVs [bv ((V.getD i varZ).g.getD 0 0), bv ((V.getD i varZ).g.getD 1 0), bv ((V.getD i varZ).g.getD 2 0), bv ((V.getD i varZ).g.getD 3 0), bv ((V.getD i varZ).g.getD 4 0), bv ((V.getD i varZ).g.getD 5 0), bv ((V.getD i varZ).g.getD 6 0), bv ((V.getD i varZ).g.getD 7 0), bv ((V.getD i varZ).g.getD 8 0), bv ((V.getD i varZ).g.getD 9 0), bv ((V.getD i varZ).g.getD 10 0), bv ((V.getD i varZ).g.getD 11 0), bv ((V.getD i varZ).g.getD 12 0), bv ((V.getD i varZ).g.getD 13 0), bv ((V.getD i varZ).g.getD 14 0), bv ((V.getD i varZ).g.getD 15 0)] [bv ((nameV (V.getD i varZ)).g.getD 0 0), bv ((nameV (V.getD i varZ)).g.getD 1 0), bv ((nameV (V.getD i varZ)).g.getD 2 0), bv ((nameV (V.getD i varZ)).g.getD 3 0), bv ((nameV (V.getD i varZ)).g.getD 4 0), bv ((nameV (V.getD i varZ)).g.getD 5 0), bv ((nameV (V.getD i varZ)).g.getD 6 0), bv ((nameV (V.getD i varZ)).g.getD 7 0), bv ((nameV (V.getD i varZ)).g.getD 8 0), bv ((nameV (V.getD i varZ)).g.getD 9 0), bv ((nameV (V.getD i varZ)).g.getD 10 0), bv ((nameV (V.getD i varZ)).g.getD 11 0), bv ((nameV (V.getD i varZ)).g.getD 12 0), bv ((nameV (V.getD i varZ)).g.getD 13 0), bv ((nameV (V.getD i varZ)).g.getD 14 0), bv ((nameV (V.getD i varZ)).g.getD 15 0)]) = true from (congrArg (fun b => decide ((0 : Int) = 0) && b) ((ng_eq (V.getD i varZ).nm (V.getD i varZ).nm (V.getD i varZ).g (V.getD i varZ).g hok.ok.g hok.ok.g).trans (decide_eq_true ⟨rfl, rfl⟩)))]
          conv => whnf
          refine gcl (hA := fun hG => ⟨trivial, trivial⟩) (k := ?_)
          (
 refine cmks (works21_vc) Tryz.call40 0 [] [] [] ?_
 refine ggO (k := ?_)
 exact ⟨_, rfl, rfl, trivial⟩)
       ·rw [j1] at hN
        (
 refine cmks (hN) Tryz.call45 (hon := rowu) (hX := rowu) 6 [24, 26, 28, 29, 30, 31] [0, 0, 0, 0, 0, 0] [] ?_
 refine ggO (k := ?_))
        rw [hdn]
        refine ⟨fun h => absurd h (by decide), fun _ => ?_⟩
        clear hNa hNr hNb hN
        refine ggO (k := ?_)
        (
 (refine sts (k := ?_))
 conv => whnf
 refine loop_at (fun i : Nat => i ≤ V.length) (fun i => V.length - i) 0 [6, 23, 164, 165, 166, 167, 168, 169, 170, 171, 172, 173, 174, 175, 176, 177, 178, 179, 180, 181, 182, 183, 184, 185, 186, 187, 188, 189, 190, 191, 192, 193, 194, 195, 196, 197, 198] (fun i => [(8, .sl 0 57 (fun v : VarV => varA (.val (.slice none 0 0)) v) varZ (V.map nameV)), (23, .val (.int .i64 (i : Int)))]) (fun i => [(21, ⟨1, .dead⟩)]) 0 (Nat.zero_le _) ?_ ?_ ?_
 ·exact no_implicit_lambda% ten
 ·exact no_implicit_lambda% hen)
        ·rintro i w5 i1
         rcases Nat.lt_or_ge i V.length with hlt | hge2
         ·(
 have hgei : (V.map nameV).getD i varZ = nameV (V.getD i varZ) := by
  rw [List.getD_eq_getElem?_getD, List.getElem?_map, List.getD_eq_getElem?_getD, List.getElem?_eq_getElem hlt]; rfl
 have hvm : V.getD i varZ ∈ V := by rw [List.getD_eq_getElem?_getD, List.getElem?_eq_getElem hlt]; exact List.getElem_mem hlt
 have hok := (hS.ok _ hvm).1
 have hg2 : (nameV (V.getD i varZ)).g.length = 16 := hok.ok.g
 have hn2 : (nameV (V.getD i varZ)).nm.size ≤ 1000000 := by have := rightN_le hok.r; show (V.getD i varZ).nm.size ≤ _; omega
 have hlm : (V.map nameV).length = V.length := List.length_map ..
 refine glp (k := ?_)
 refine gg (k := ?_)
 rw [show decide ((i : Int) < ((V.map nameV).length : Int)) = true from decide_eq_true (by rw [List.length_map]; omega)]
 refine ggO (k := ?_)
 (refine sts (k := ?_))
 refine draw_of (p := 0) tbOk hm [0, 0, 0, 6, 14, 31] [⟨0, true, false, [171, 172, 173, 174, 175]⟩, ⟨1, false, false, []⟩, ⟨2, false, false, []⟩, ⟨3, true, false, [170, 174, 175]⟩, ⟨4, true, false, [170, 175]⟩, ⟨5, true, false, []⟩] (by kernel_rfl) ?_
 refine ggO (k := ?_)
 simp only [Int.toNat_natCast, hgei]
 refine cmks (ahead_bn a (nameV (V.getD i varZ)) a.d ha.g hg2 (by omega) hn2) Tryz.call43 (hon := ⟨varA_on (x := .bs 0 a.d) trivial _, varA_on (x := .val (.slice none 0 0)) trivial _, trivial⟩) 0 [] [] [] ?_)
          rw [show ltB (keyV a.nm a.g) (keyV (nameV (V.getD i varZ)).nm (nameV (V.getD i varZ)).g) = false from j2 i hlt]
          refine ggO (k := ?_)
          refine back_at (i + 1) hlt (by show V.length - (i + 1) < V.length - i; omega) ?_ ?_
          ·exact no_implicit_lambda% ten
          ·exact no_implicit_lambda% hen
         ·refine glp (k := ?_)
          refine gg (k := ?_)
          rw [show decide ((i : Int) < ((V.map nameV).length : Int)) = false from decide_eq_false (by rw [List.length_map]; omega)]
          refine ggO (k := ?_)
          (
 refine cmks (works21_vc) Tryz.call40 0 [] [] [] ?_
 refine ggO (k := ?_)
 exact ⟨_, rfl, rfl, trivial⟩)
end Go.Proofs.YtpbpiehcchannaaGreatDoor
