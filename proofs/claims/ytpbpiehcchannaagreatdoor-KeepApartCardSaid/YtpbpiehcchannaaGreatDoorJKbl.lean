/- Walk of lintellaw21: KeepApart. Conditions: none. -/
import Derived.Test.YtpbpiehcchannaaGreatDoorJKbk
namespace Go.Proofs.YtpbpiehcchannaaGreatDoor
open Go.RowKit
set_option linter.unusedVariables false
set_option linter.unusedSimpArgs false
set_option maxRecDepth 100000
set_option maxHeartbeats 3000000
theorem varA_AFL {mk : List (Nat × Ent)} {x y : AV} (h : AF mk x y) (v : VarV) : AFL mk (varA x v) (varA y v) := by
 unfold varA
 repeat (first | exact AFL.nil | refine AFL.cons AF.same ?_)
 exact AFL.cons h AFL.nil
theorem kget_z {W : Int} {n k : Nat} (s : FlS) (c : Nat) {M : List RK} (m : LK s c M) (go : Goes W n k s) (pa : Lies n k 0 c) (pb : Lies n k c c) (v : VarV) (hv : VOk v) (hm : rcdV v ∈ M) (vk vs va vb v0 v1 : Nat) : Spec Tryz.prog 44 [.ref 0 vk 1 0 0, .val (.string v.nm), .agg (bytesA 16 v.g)] [⟨vk, .obj [.ref 1 vs 3 0 0]⟩, ⟨vs, .obj [.ref 4 v0 6 0 0, .ref 2 va 3 0 0, .ref 3 vb 3 0 0]⟩, ⟨va, .obj [.ref 4 v0 6 0 0, .val (.int .i64 ((0 : Nat) : Int)), .val (.int .i64 (c : Int))]⟩, ⟨vb, .obj [.ref 4 v0 6 0 0, .val (.int .i64 (c : Int)), .val (.int .i64 (c : Int))]⟩, ⟨v0, .obj [.own 5 v1 1 0 s.l.length, .val (.int .i64 (s.k : Int)), .val (.int .i64 s.ar), .val (.int .i64 s.pt), .val (.bool s.dd), .val (.int .i64 s.wr)]⟩, ⟨v1, .bytes s.l⟩]
   (pms (.tup [.agg (varA (.bs 0 v.d) v), .val (.bool true), .val (.int .i64 0)]) [⟨vk, .obj [.ref 1 vs 3 0 0]⟩, ⟨vs, .obj [.ref 4 v0 6 0 0, .ref 2 va 3 0 0, .ref 3 vb 3 0 0]⟩, ⟨va, .obj [.ref 4 v0 6 0 0, .val (.int .i64 ((0 : Nat) : Int)), .val (.int .i64 (c : Int))]⟩, ⟨vb, .obj [.ref 4 v0 6 0 0, .val (.int .i64 (c : Int)), .val (.int .i64 (c : Int))]⟩, ⟨v0, .obj [.own 5 v1 1 0 s.l.length, .val (.int .i64 (s.k : Int)), .val (.int .i64 s.ar), .val (.int .i64 s.pt), .val (.bool s.dd), .val (.int .i64 s.wr)]⟩, ⟨v1, .bytes s.l⟩] []) :=
 spec_frz (kget_in s c m go pa pb v hv.ok hv.r hv.t (by have := hv.d; omega) hm vk vs va vb v0 v1) (by simp [geM]) (AF.tup (AFL.cons (AF.agg (varA_AFL (AF.own rfl rfl) v)) (AFL.cons AF.same (AFL.cons AF.same AFL.nil)))) ⟨rfl, BF.same, rfl, BF.same, rfl, BF.same, rfl, BF.same, rfl, BF.same, rfl, BF.same, trivial⟩
theorem toldA_AFL {mk : List (Nat × Ent)} {x y : AV} (h : AF mk x y) (u : VarV) (n : Int) (is : Bool) (e : Int) : AFL mk (toldA x u n is e) (toldA y u n is e) := by
 unfold toldA varA
 simp only [List.cons_append, List.nil_append]
 repeat (first | exact AFL.nil | refine AFL.cons AF.same ?_ | refine AFL.cons h ?_)
theorem toldA_on {P : Nat → Prop} (l : List UInt8) (u : VarV) (n : Int) (is : Bool) (e : Int) : onAs P (toldA (.bs 0 l) u n is e) := by
 unfold toldA varA
 simp only [List.cons_append, List.nil_append]
 repeat (first | exact trivial | refine And.intro trivial ?_)
theorem ng_eq (a b : ByteArray) (g h : List UInt8) (hg : g.length = 16) (hh : h.length = 16) : (decide (a.data.toList = b.data.toList) && eqVs ((List.range 16).map fun i => bv (g.getD i 0)) ((List.range 16).map fun i => bv (h.getD i 0))) = decide (a = b ∧ g = h) := by
 rw [range_getD g 16 hg, range_getD h 16 hh, eqVs_bytes, Bool.eq_iff_iff]
 simp only [Bool.and_eq_true, decide_eq_true_eq]
 exact ⟨fun q => ⟨by rw [← strOf_toList a, q.1, strOf_toList], q.2⟩, fun q => ⟨by rw [q.1], q.2⟩⟩
theorem law_keepapart (z : Int) (hz : 0 ≤ z ∧ z ≤ 65535) (l : List VarV) (hl : ∀ v ∈ l, v.Ok) (o : OpV) (ho : o.Ok) : Spec Tryz.prog 8 [.val (.int .u16 z), .sl 0 57 (fun v : VarV => varA (.bs 0 v.d) v) varZ l, .agg (opA o)] [] (pms (.val (.bool true)) [] []) := by
 refine spec_entry tbOk Tryz.func8 rfl Tryz.ntmps8 Tryz.results8 ?_
 refine gg (k := ?_)
 refine cmks (long_vc l) Tryz.call39 (hon := ⟨fun a => varA_on (x := .bs 0 a.d) trivial a, trivial⟩) 0 [] [] [] ?_
 cases hlong : longB l with
 | true =>
  refine ggO (k := ?_)
  intro _
  refine ggO (k := ?_)
  intro _
  refine ggO (k := ?_)
  refine cmks (works21_vc) Tryz.call40 0 [] [] [] ?_
  refine gg (k := ?_)
  exact ⟨_, rfl, rfl, trivial⟩
 | false =>
  refine ggO (k := ?_)
  conv => whnf
  refine And.intro (fun _ => And.intro ?_ ?_) (fun h => absurd rfl h)
  ·(repeat' apply And.intro) <;> first | exact rfl | exact trivial | exact Nat.le_of_ble_eq_true rfl
  conv => whnf
  refine gcl (hA := fun hG => by first | exact ⟨trivial, hG, trivial⟩ | exact ⟨trivial, trivial, trivial⟩) (k := ?_)
  refine cmksW (vast21_one o (fun _ => opA o) rfl 1) Tryz.call46 (hr2 := ⟨fun _ => opA_on _, trivial⟩) 1 [29] [0] [] ?_ ?_
  ·refine ⟨⟨fun _ => opA_on _, _, rfl, WeakE.row 1 59 rfl⟩, trivial⟩
  cases hvast : vastO [o] with
  | true =>
   refine ggO (k := ?_)
   refine cmks (works21_vc) Tryz.call40 0 [] [] [] ?_
   refine gg (k := ?_)
   exact ⟨_, rfl, rfl, trivial⟩
  | false =>
   have hy := yOf_bd z
   have hl60 : l.length ≤ 60 := by
    unfold longB at hlong
    rw [Bool.or_eq_false_iff] at hlong
    have := of_decide_eq_false hlong.1
    omega
   obtain ⟨s1, h1, h0⟩ := new_NB hy
   obtain ⟨M, hNB, hM⟩ := fill_NB hy h0 l hl (by omega) l.length (Nat.le_refl _)
   have hnod : (M.map fun r : RK => r.key).Nodup := by
    obtain ⟨G, _, i, g, l', m, O, _, _, e, hN, _⟩ := hNB.ex
    unfold NodK at hN
    rw [e] at hN
    exact hN
   obtain ⟨V, hS⟩ := VS.of hnod hM
   have hVl : V.length ≤ 60 := by
    have e1 := congrArg List.length hS.ks
    rw [srtK_len, List.length_map, List.length_map] at e1
    have := hNB.len
    omega
   have la := lie0 hy
   have lb := lie1 hy
   have hgo := hNB.go
   have hlk := hNB.lk
   have hF := filled21_vc z hz s1 h1 h0 l hl (by omega)
   have hNM := names21_vc (fillV s1 l l.length) 1 hlk hgo la lb hS (by omega) 4 5 6 6 4 5
   have hMk := kmark_no (fillV s1 l l.length) 1 hlk hgo la lb (rcd_mark hM) 4 5 6 6 4 5
   have hGz := fun (v : VarV) (hv : v ∈ V) => kget_z (fillV s1 l l.length) 1 hlk hgo la lb v (hS.ok v hv).1 (hS.ok v hv).2 4 5 6 6 4 5
   have hDo := fun h6 => does_step hNB hy (by omega) hM hS (by omega) o ho h6 4 5 6 6 4 5
   generalize fillV s1 l l.length = s at hF hNM hMk hGz hDo
   refine ggO (k := ?_)
   refine cmks (hF) Tryz.call41 (hon := ⟨trivial, fun a => varA_on (x := .bs 0 a.d) trivial a, trivial⟩) 0 [0, 0, 0, 0, 0, 0, 0, 0, 0, 47, 53, 40, 41, 42, 0, 0, 0, 0, 0, 0, 0, 0, 0, 0, 0, 0, 0, 0, 0, 0, 0, 0, 0, 0, 0, 0, 0, 0, 46] [0, 0, 0, 0, 0, 0, 0, 0, 0, 1, 1, 1, 1, 1, 0, 0, 0, 0, 0, 0, 0, 0, 0, 0, 0, 0, 0, 0, 0, 0, 0, 0, 0, 0, 0, 0, 0, 0, 1] [11, 12, 13, 38, 9, 10] ?_
   refine gg (k := ?_)
   refine cmks (hNM) Tryz.call42 (hX := ⟨fun a => varA_on (x := .val (.slice none 0 0)) trivial a, trivial, trivial⟩) 6 [40, 41, 42, 46, 47, 53] [0, 0, 0, 0, 0, 0] [] ?_
   refine gg (k := ?_)
   refine cmks (hMk) Tryz.call47 6 [40, 41, 42, 46, 47, 53] [0, 0, 0, 0, 0, 0] [] ?_
   refine gg (k := ?_)
   (refine sts (k := ?_))
   conv => whnf
   refine loop_le (leS_nil 79 1 (.row 57 (fun v : VarV => varA (.bs 0 v.d) v) varZ []) rfl (by decide) rfl (t' := [.any, .any, .any, .any, .any, .ref 5 1 59 0 0, .val (.bool false), .ref 40 4 1 0 0, .sl 0 57 (fun v : VarV => varA (.val (.slice none 0 0)) v) varZ (V.map nameV), .any, .val (.int .u8 0), .val (.int .i64 0), .own 79 1 57 0 0, .val (.int .i64 0), .any, .any, .any, .any, .any, .any, .any, .any, .any, .any, .any, .any, .any, .any, .any, .any, .any, .any, .any, .any, .any, .any, .any, .any, .any, .any, .any, .any, .any, .any, .any, .any, .any, .any, .any, .any, .any, .any, .any, .any, .any, .any, .any, .any, .any, .any, .any, .any, .any, .any, .any, .any, .any, .any, .any, .any, .any, .any, .any, .any, .any, .any, .any, .any, .any, .any, .any, .any, .any, .any, .any, .any, .any, .any, .any, .any, .any, .any, .any, .any, .any, .any, .any, .any, .any, .any, .any, .any, .any, .any, .any, .any, .any, .any, .any, .any, .any, .any, .any, .any, .any, .any, .any, .any, .any, .any, .any, .any, .any, .any, .any, .any, .any, .any, .any, .any, .any, .any, .any, .any, .any, .any, .any, .any, .any, .any, .any, .any, .any, .any, .any, .any, .any, .any, .any, .any, .any, .any, .any, .any, .any, .any, .any, .any, .any, .any, .any, .any, .any, .any, .any, .any, .any, .any, .any, .any, .any, .any, .any, .any, .any, .any, .any, .any, .any, .any, .any, .any, .any, .any, .any, .any]) ?_) ?_
   ·simp [leTn, setD, setL, updH, evA, unA, getA, getL, constA, undefs, deads]
    exact ⟨rfl, rfl⟩
   dsimp only [setL]
   refine loop_at (fun i : Nat => i ≤ V.length) (fun i => V.length - i) 0 [12, 13, 14, 15, 16, 54, 55, 56, 57, 58, 59, 60, 61, 62, 63, 64, 65, 66, 67, 68, 69, 70, 71, 72, 73, 74, 75, 76, 77, 78, 79] (fun i => [(12, .own 79 (i + 1) 57 0 i), (13, .val (.int .i64 (i : Int)))])
    (fun i => [(79, ⟨i + 1, .row 57 (fun v : VarV => varA (.bs 0 v.d) v) varZ (V.take i)⟩)]) 0 (Nat.zero_le _) ?_ ?_ ?_
   ·exact no_implicit_lambda% ten
   ·exact no_implicit_lambda% hen
   ·rintro i w i1
    refine glp (k := ?_)
    refine gg (k := ?_)
    refine ⟨fun h => ?_, fun h => ?_⟩
    ·have hlt : i < V.length := by
       have := of_decide_eq_true h
       rw [List.length_map] at this
       omega
     have hge : (V.map nameV).getD i varZ = nameV (V.getD i varZ) := by
      rw [List.getD_eq_getElem?_getD, List.getElem?_map, List.getD_eq_getElem?_getD, List.getElem?_eq_getElem hlt]; rfl
     have hvm : V.getD i varZ ∈ V := by rw [List.getD_eq_getElem?_getD, List.getElem?_eq_getElem hlt]; exact List.getElem_mem hlt
     have hG := hGz _ hvm
     have hT : V.take (i + 1) = V.take i ++ [V.getD i varZ] := by
      rw [List.take_succ_eq_append_getElem hlt, List.getD_eq_getElem?_getD, List.getElem?_eq_getElem hlt]; rfl
     have hTl : (V.take i).length = i := by rw [List.length_take]; omega
     have hTm : (V.take (i + 1)).length = i + 1 := by rw [List.length_take]; omega
     have hlm : (V.map nameV).length = V.length := List.length_map ..
     refine gg (k := ?_)
     (refine sts (k := ?_))
     refine draw_of (p := 0) tbOk hm [0, 0, 0, 6, 14, 30, 0, 0, 192, 448, 960, 2047, 4095, 8191, 8191, 8191, 0, 81919, 229375, 524287] [⟨0, false, false, []⟩, ⟨1, false, false, []⟩, ⟨2, false, false, []⟩, ⟨3, true, false, [61, 65, 66, 67, 68, 69, 70, 71, 72, 60, 73, 74, 75, 14, 15, 16]⟩, ⟨4, true, false, [61, 66, 67, 68, 69, 70, 71, 72, 60, 73, 74, 75, 14, 15, 16]⟩, ⟨5, true, false, [61, 67, 68, 69, 70, 71, 72, 60, 73, 74, 75, 14, 15, 16]⟩, ⟨6, false, false, []⟩, ⟨7, false, false, []⟩, ⟨8, true, false, [61, 62, 63, 64, 65, 66, 70, 71, 72, 60, 73, 74, 75, 14, 15, 16]⟩, ⟨9, true, false, [61, 62, 63, 64, 65, 66, 71, 72, 60, 73, 74, 75, 14, 15, 16]⟩, ⟨10, true, false, [61, 62, 63, 64, 65, 66, 72, 60, 73, 74, 75, 14, 15, 16]⟩, ⟨16, true, false, [61, 62, 63, 64, 65, 66, 67, 68, 69, 70, 71, 72, 60, 73, 74, 75, 15, 16]⟩, ⟨11, true, false, [60, 73, 74, 75, 14, 15, 16]⟩, ⟨12, false, false, []⟩, ⟨13, false, false, []⟩, ⟨14, false, false, []⟩, ⟨15, false, false, []⟩, ⟨17, true, true, [74, 75, 15, 16]⟩, ⟨18, false, false, []⟩, ⟨19, false, false, []⟩] (by kernel_rfl) ?_
     refine ggO (k := ?_)
     simp only [Int.toNat_natCast, hge]
     generalize V.getD i varZ = u at hG hT
     refine cmks (hG) Tryz.call44 (hon := rowu) 6 [40, 41, 42, 46, 47, 53] [0, 0, 0, 0, 0, 0] [] ?_
     conv => whnf
     refine And.intro ⟨.inr rfl, .inr rfl, .inr rfl, .inr rfl, .inr rfl, .inr rfl, trivial⟩ ?_
     refine ggO (k := ?_)
     conv => whnf
     refine ⟨VarV, (fun v : VarV => varA (.bs 0 v.d) v), varZ, V.take (i + 1), ?_⟩
     conv => whnf
     refine And.intro ⟨rfl, ⟨rfl, rfl, Nat.le_refl _, fun q hq => (by (have hq0 : q = 0 := by simpa using hq); subst hq0; ((repeat' apply And.intro) <;> first | exact trivial | exact rfl))⟩, rfl, rfl, rfl, hTl.symm, .inr rfl, (by rw [hT, List.map_append]; rfl), (by rw [hTm]; show (i + 1) * 104 ≤ _; omega), by decide⟩ ?_
     rw [hTm]
     refine ggO (k := ?_)
     refine back_at (i + 1) hlt (by show V.length - (i + 1) < V.length - i; omega) ?_ ?_
     ·exact no_implicit_lambda% ten
     ·exact no_implicit_lambda% hen
    ·have hi : i = V.length := by
       have := of_decide_eq_false h
       rw [List.length_map] at this
       omega
     subst hi
     rw [List.take_length]
     clear hGz hF hNM hMk
     refine ggO (k := ?_)
     by_cases h6 : o.K = 6
     ·rw [decide_eq_true h6]
      refine ggO (k := ?_)
      refine cmks (works21_vc) Tryz.call40 0 [] [] [] ?_
      refine ggO (k := ?_)
      exact ⟨_, rfl, rfl, trivial⟩
     rw [decide_eq_false h6]
     obtain ⟨x, u, n, is, e, s', M', hx, hsp, hNB', hkeep, hmark⟩ := hDo h6
     clear hDo
     obtain ⟨lx, hsp⟩ : ∃ lx, Spec Tryz.prog 48 [.val (.pointer none), .ref 0 4 1 0 0, .agg (opA o)] [⟨4, .obj [.ref 1 5 3 0 0]⟩, ⟨5, .obj [.ref 4 4 6 0 0, .ref 2 6 3 0 0, .ref 3 6 3 0 0]⟩, ⟨6, .obj [.ref 4 4 6 0 0, .val (.int .i64 ((0 : Nat) : Int)), .val (.int .i64 (1 : Int))]⟩, ⟨6, .obj [.ref 4 4 6 0 0, .val (.int .i64 (1 : Int)), .val (.int .i64 (1 : Int))]⟩, ⟨4, .obj [.own 5 5 1 0 s.l.length, .val (.int .i64 (s.k : Int)), .val (.int .i64 s.ar), .val (.int .i64 s.pt), .val (.bool s.dd), .val (.int .i64 s.wr)]⟩, ⟨5, .bytes s.l⟩] (pms (.tup [.agg (toldA (.bs 0 lx) u n is e), .ref 0 4 1 0 0]) [⟨4, .obj [.ref 1 5 3 0 0]⟩, ⟨5, .obj [.ref 4 4 6 0 0, .ref 2 6 3 0 0, .ref 3 6 3 0 0]⟩, ⟨6, .obj [.ref 4 4 6 0 0, .val (.int .i64 ((0 : Nat) : Int)), .val (.int .i64 (1 : Int))]⟩, ⟨6, .obj [.ref 4 4 6 0 0, .val (.int .i64 (1 : Int)), .val (.int .i64 (1 : Int))]⟩, ⟨4, .obj [.own 5 5 1 0 s'.l.length, .val (.int .i64 (s'.k : Int)), .val (.int .i64 s'.ar), .val (.int .i64 s'.pt), .val (.bool s'.dd), .val (.int .i64 s'.wr)]⟩, ⟨5, .bytes s'.l⟩] []) := by
      rcases hx with rfl | ⟨lx, rfl⟩
      ·exact ⟨[], spec_frz hsp (by simp [geM]) (AF.tup (AFL.cons (AF.agg (toldA_AFL AF.nil u n is e)) (AFL.cons AF.same AFL.nil))) ⟨rfl, BF.same, rfl, BF.same, rfl, BF.same, rfl, BF.same, rfl, BF.same, rfl, BF.same, trivial⟩⟩
      ·exact ⟨lx, hsp⟩
     clear hx
     have hgo' := hNB'.go
     have hlk' := hNB'.lk
     refine ggO (k := ?_)
     refine cmks (hsp) Tryz.call48 (hon := ⟨trivial, (by decide : 0 < 6), opA_on _, trivial⟩) (hX := ⟨toldA_on _ _ _ _ _, rfl, trivial⟩) 6 [40, 41, 42, 46, 47, 53] [0, 0, 0, 0, 0, 0] [] ?_
     refine ggO (k := ?_)
     (refine sts (k := ?_))
     conv => whnf
     refine loop_at (fun i : Nat => i ≤ V.length) (fun i => V.length - i) 0 [6, 19, 20, 21, 22, 23, 90, 91, 92, 93, 94, 95, 96, 97, 98, 99, 100, 101, 102, 103, 104, 105, 106, 107, 108, 109, 110, 111, 112, 113, 114, 115, 116, 117, 118, 119, 120, 121, 122, 123, 124, 125, 126, 127, 128, 129, 130, 131, 132, 133, 134, 135, 136, 137, 138, 139, 140, 141, 142, 143, 144, 145, 146, 147, 148, 149, 150, 151, 152, 153, 154, 155, 156, 157, 158, 159, 160] (fun i => [(19, .val (.int .i64 (i : Int)))]) (fun i => []) 0 (Nat.zero_le _) ?_ ?_ ?_
     ·exact no_implicit_lambda% ten
     ·exact no_implicit_lambda% hen
     ·rintro i w2 i1
      refine glp (k := ?_)
      refine gg (k := ?_)
      refine ⟨fun h => ?_, fun h => ?_⟩
      ·have hlt : i < V.length := by have := of_decide_eq_true h; omega
       have hvm : V.getD i varZ ∈ V := by rw [List.getD_eq_getElem?_getD, List.getElem?_eq_getElem hlt]; exact List.getElem_mem hlt
       have hok := (hS.ok _ hvm).1
       have hin := (hS.ok _ hvm).2
       have h0i : 0 + (i : Int).toNat = i := by omega
       refine gg (k := ?_)
       (refine sts (k := ?_))
       refine draw_of (p := 0) tbOk hm [0, 0, 0, 6, 14, 30, 0, 0, 192, 448, 960, 2047, 4095, 8191, 8191, 8191, 0, 81919, 229375, 524287] [⟨0, false, false, []⟩, ⟨1, false, false, []⟩, ⟨2, false, false, []⟩, ⟨3, true, false, [97, 101, 102, 103, 104, 105, 106, 107, 108, 96, 109, 110, 111, 20, 21, 22]⟩, ⟨4, true, false, [97, 102, 103, 104, 105, 106, 107, 108, 96, 109, 110, 111, 20, 21, 22]⟩, ⟨5, true, false, [97, 103, 104, 105, 106, 107, 108, 96, 109, 110, 111, 20, 21, 22]⟩, ⟨6, false, false, []⟩, ⟨7, false, false, []⟩, ⟨8, true, false, [97, 98, 99, 100, 101, 102, 106, 107, 108, 96, 109, 110, 111, 20, 21, 22]⟩, ⟨9, true, false, [97, 98, 99, 100, 101, 102, 107, 108, 96, 109, 110, 111, 20, 21, 22]⟩, ⟨10, true, false, [97, 98, 99, 100, 101, 102, 108, 96, 109, 110, 111, 20, 21, 22]⟩, ⟨16, true, false, [97, 98, 99, 100, 101, 102, 103, 104, 105, 106, 107, 108, 96, 109, 110, 111, 21, 22]⟩, ⟨11, true, false, [96, 109, 110, 111, 20, 21, 22]⟩, ⟨12, false, false, []⟩, ⟨13, false, false, []⟩, ⟨14, false, false, []⟩, ⟨15, false, false, []⟩, ⟨17, true, true, [110, 111, 21, 22]⟩, ⟨18, false, false, []⟩, ⟨19, false, false, []⟩] (by kernel_rfl) ?_
       refine ggO (k := ?_)
       obtain ⟨v, hv⟩ : ∃ v, V.getD i varZ = v := ⟨_, rfl⟩
       simp only [h0i, hv]
       rw [hv] at hok hin
       have hng := ng_eq v.nm o.v.nm v.g o.v.g hok.ok.g ho.v.g
       by_cases hs : v.nm = o.v.nm ∧ v.g = o.v.g
       ·rw [decide_eq_true hs] at hng
        by_cases hk : o.K = 1 ∨ o.K = 2
        ·by_cases hmem : ∃ r ∈ M', r.key = keyV v.nm v.g
         ·obtain ⟨v2, hv2, hv2m, e1, e2⟩ := hNB'.there hok.ok.g hmem
          have hG := kget_z s' 1 hlk' hgo' la lb v2 hv2 hv2m 4 5 6 6 4 5
          rw [e1, e2] at hG
          rcases hk with hk | hk
          ·refine cmks (hG) Tryz.call44 (hon := rowu) 6 [40, 41, 42, 46, 47, 53] [0, 0, 0, 0, 0, 0] [] ?_
           (
 (
 conv => whnf
 refine And.intro ⟨.inr rfl, .inr rfl, .inr rfl, .inr rfl, .inr rfl, .inr rfl, trivial⟩ ?_
 refine ggO (k := ?_)
 (refine sts (k := ?_))
 refine draw_of (p := 0) tbOk hm [0, 0, 3, 7, 15, 0, 32, 96, 255, 511, 1023, 1023, 4095, 8191, 16383, 1023, 33791, 99327, 262143, 524287, 1048575, 2097151, 4194303, 8388607, 16777215, 33554431, 67108863, 134217727, 268435455, 536870911, 1073741823] [⟨0, false, false, []⟩, ⟨1, false, false, []⟩, ⟨2, true, false, [115, 116, 117, 118, 119, 120, 121, 122, 123, 124, 125, 126, 127, 128, 129, 130, 131, 132, 133, 134, 135, 136, 137, 138, 139, 140, 141, 23]⟩, ⟨3, true, false, [116, 117, 118, 119, 120, 121, 122, 123, 124, 125, 126, 127, 128, 129, 130, 131, 132, 133, 134, 135, 136, 137, 138, 139, 140, 141, 23]⟩, ⟨4, true, false, [117, 118, 119, 120, 121, 122, 123, 124, 125, 126, 127, 128, 129, 130, 131, 132, 133, 134, 135, 136, 137, 138, 139, 140, 141, 23]⟩, ⟨5, true, false, [112, 113, 114, 115, 116, 118, 119, 120, 121, 122, 123, 124, 125, 126, 127, 128, 129, 130, 131, 132, 133, 134, 135, 136, 137, 138, 139, 140, 141, 23]⟩, ⟨6, true, false, [112, 113, 114, 115, 116, 119, 120, 121, 122, 123, 124, 125, 126, 127, 128, 129, 130, 131, 132, 133, 134, 135, 136, 137, 138, 139, 140, 141, 23]⟩, ⟨7, true, false, [112, 113, 114, 115, 116, 120, 121, 122, 123, 124, 125, 126, 127, 128, 129, 130, 131, 132, 133, 134, 135, 136, 137, 138, 139, 140, 141, 23]⟩, ⟨8, false, false, []⟩, ⟨9, false, false, []⟩, ⟨10, false, false, []⟩, ⟨11, false, false, []⟩, ⟨12, true, false, [125, 126, 127, 128, 129, 130, 131, 132, 133, 134, 135, 136, 137, 138, 139, 140, 141, 23]⟩, ⟨13, true, false, [126, 127, 128, 129, 130, 131, 132, 133, 134, 135, 136, 137, 138, 139, 140, 141, 23]⟩, ⟨14, true, false, [127, 128, 129, 130, 131, 132, 133, 134, 135, 136, 137, 138, 139, 140, 141, 23]⟩, ⟨15, true, false, [122, 123, 124, 125, 126, 128, 129, 130, 131, 132, 133, 134, 135, 136, 137, 138, 139, 140, 141, 23]⟩, ⟨16, true, false, [122, 123, 124, 125, 126, 129, 130, 131, 132, 133, 134, 135, 136, 137, 138, 139, 140, 141, 23]⟩, ⟨17, true, false, [122, 123, 124, 125, 126, 130, 131, 132, 133, 134, 135, 136, 137, 138, 139, 140, 141, 23]⟩, ⟨18, false, false, []⟩, ⟨19, false, false, []⟩, ⟨20, false, false, []⟩, ⟨21, true, false, [134, 135, 136, 137, 138, 139, 140, 141, 23]⟩, ⟨22, true, false, [135, 136, 137, 138, 139, 140, 141, 23]⟩, ⟨23, false, false, []⟩, ⟨24, false, false, []⟩, ⟨25, true, false, [138, 139, 140, 141, 23]⟩, ⟨26, true, false, [139, 140, 141, 23]⟩, ⟨27, false, false, []⟩, ⟨28, false, false, []⟩, ⟨29, false, false, []⟩, ⟨30, false, false, []⟩] (by kernel_rfl) ?_
 refine ggO (k := ?_)
 simp only [h0i, hv]
 rw [show (decide (v.nm.data.toList = o.v.nm.data.toList) && eqVs [bv (v.g.getD 0 0), bv (v.g.getD 1 0), bv (v.g.getD 2 0), bv (v.g.getD 3 0), bv (v.g.getD 4 0), bv (v.g.getD 5 0), bv (v.g.getD 6 0), bv (v.g.getD 7 0), bv (v.g.getD 8 0), bv (v.g.getD 9 0), bv (v.g.getD 10 0), bv (v.g.getD 11 0), bv (v.g.getD 12 0), bv (v.g.getD 13 0), bv (v.g.getD 14 0), bv (v.g.getD 15 0)] [bv (o.v.g.getD 0 0), bv (o.v.g.getD 1 0), bv (o.v.g.getD 2 0), bv (o.v.g.getD 3 0), bv (o.v.g.getD 4 0), bv (o.v.g.getD 5 0), bv (o.v.g.getD 6 0), bv (o.v.g.getD 7 0), bv (o.v.g.getD 8 0), bv (o.v.g.getD 9 0), bv (o.v.g.getD 10 0), bv (o.v.g.getD 11 0), bv (o.v.g.getD 12 0), bv (o.v.g.getD 13 0), bv (o.v.g.getD 14 0), bv (o.v.g.getD 15 0)]) = true from hng]
 rw [decide_eq_true hk]
 refine ggO (k := ?_)
 (refine sts (k := ?_))
 refine draw_of (p := 0) tbOk hm [0, 1, 3, 7, 15, 31, 63, 127, 255, 511, 511, 511, 3583, 7679, 16383, 32767, 65535, 131071, 262143] [⟨0, false, false, []⟩, ⟨1, false, false, []⟩, ⟨2, false, false, []⟩, ⟨3, false, false, []⟩, ⟨4, false, false, []⟩, ⟨5, false, false, []⟩, ⟨6, false, false, []⟩, ⟨7, false, false, []⟩, ⟨8, false, false, []⟩, ⟨9, true, false, [152, 153, 154, 155, 156, 157, 158, 159, 160]⟩, ⟨10, false, false, []⟩, ⟨11, false, false, []⟩, ⟨12, true, false, [151, 155, 156, 157, 158, 159, 160]⟩, ⟨13, true, false, [151, 156, 157, 158, 159, 160]⟩, ⟨14, true, true, [157, 158, 159, 160]⟩, ⟨15, false, false, []⟩, ⟨16, false, false, []⟩, ⟨17, false, false, []⟩, ⟨18, false, false, []⟩] (by kernel_rfl) ?_
 refine ggO (k := ?_))
 intro _
 refine ggO (k := ?_)
 refine back_at (i + 1) hlt (by show V.length - (i + 1) < V.length - i; omega) ?_ ?_
 ·exact no_implicit_lambda% ten
 ·exact no_implicit_lambda% hen)
          ·have hk1 : ¬ o.K = 1 := by omega
           refine cmks (hG) Tryz.call44 (hon := rowu) 6 [40, 41, 42, 46, 47, 53] [0, 0, 0, 0, 0, 0] [] ?_
           (
 (
 conv => whnf
 refine And.intro ⟨.inr rfl, .inr rfl, .inr rfl, .inr rfl, .inr rfl, .inr rfl, trivial⟩ ?_
 refine ggO (k := ?_)
 (refine sts (k := ?_))
 refine draw_of (p := 0) tbOk hm [0, 0, 3, 7, 15, 0, 32, 96, 255, 511, 1023, 1023, 4095, 8191, 16383, 1023, 33791, 99327, 262143, 524287, 1048575, 2097151, 4194303, 8388607, 16777215, 33554431, 67108863, 134217727, 268435455, 536870911, 1073741823] [⟨0, false, false, []⟩, ⟨1, false, false, []⟩, ⟨2, true, false, [115, 116, 117, 118, 119, 120, 121, 122, 123, 124, 125, 126, 127, 128, 129, 130, 131, 132, 133, 134, 135, 136, 137, 138, 139, 140, 141, 23]⟩, ⟨3, true, false, [116, 117, 118, 119, 120, 121, 122, 123, 124, 125, 126, 127, 128, 129, 130, 131, 132, 133, 134, 135, 136, 137, 138, 139, 140, 141, 23]⟩, ⟨4, true, false, [117, 118, 119, 120, 121, 122, 123, 124, 125, 126, 127, 128, 129, 130, 131, 132, 133, 134, 135, 136, 137, 138, 139, 140, 141, 23]⟩, ⟨5, true, false, [112, 113, 114, 115, 116, 118, 119, 120, 121, 122, 123, 124, 125, 126, 127, 128, 129, 130, 131, 132, 133, 134, 135, 136, 137, 138, 139, 140, 141, 23]⟩, ⟨6, true, false, [112, 113, 114, 115, 116, 119, 120, 121, 122, 123, 124, 125, 126, 127, 128, 129, 130, 131, 132, 133, 134, 135, 136, 137, 138, 139, 140, 141, 23]⟩, ⟨7, true, false, [112, 113, 114, 115, 116, 120, 121, 122, 123, 124, 125, 126, 127, 128, 129, 130, 131, 132, 133, 134, 135, 136, 137, 138, 139, 140, 141, 23]⟩, ⟨8, false, false, []⟩, ⟨9, false, false, []⟩, ⟨10, false, false, []⟩, ⟨11, false, false, []⟩, ⟨12, true, false, [125, 126, 127, 128, 129, 130, 131, 132, 133, 134, 135, 136, 137, 138, 139, 140, 141, 23]⟩, ⟨13, true, false, [126, 127, 128, 129, 130, 131, 132, 133, 134, 135, 136, 137, 138, 139, 140, 141, 23]⟩, ⟨14, true, false, [127, 128, 129, 130, 131, 132, 133, 134, 135, 136, 137, 138, 139, 140, 141, 23]⟩, ⟨15, true, false, [122, 123, 124, 125, 126, 128, 129, 130, 131, 132, 133, 134, 135, 136, 137, 138, 139, 140, 141, 23]⟩, ⟨16, true, false, [122, 123, 124, 125, 126, 129, 130, 131, 132, 133, 134, 135, 136, 137, 138, 139, 140, 141, 23]⟩, ⟨17, true, false, [122, 123, 124, 125, 126, 130, 131, 132, 133, 134, 135, 136, 137, 138, 139, 140, 141, 23]⟩, ⟨18, false, false, []⟩, ⟨19, false, false, []⟩, ⟨20, false, false, []⟩, ⟨21, true, false, [134, 135, 136, 137, 138, 139, 140, 141, 23]⟩, ⟨22, true, false, [135, 136, 137, 138, 139, 140, 141, 23]⟩, ⟨23, false, false, []⟩, ⟨24, false, false, []⟩, ⟨25, true, false, [138, 139, 140, 141, 23]⟩, ⟨26, true, false, [139, 140, 141, 23]⟩, ⟨27, false, false, []⟩, ⟨28, false, false, []⟩, ⟨29, false, false, []⟩, ⟨30, false, false, []⟩] (by kernel_rfl) ?_
 refine ggO (k := ?_)
 simp only [h0i, hv]
 rw [show (decide (v.nm.data.toList = o.v.nm.data.toList) && eqVs [bv (v.g.getD 0 0), bv (v.g.getD 1 0), bv (v.g.getD 2 0), bv (v.g.getD 3 0), bv (v.g.getD 4 0), bv (v.g.getD 5 0), bv (v.g.getD 6 0), bv (v.g.getD 7 0), bv (v.g.getD 8 0), bv (v.g.getD 9 0), bv (v.g.getD 10 0), bv (v.g.getD 11 0), bv (v.g.getD 12 0), bv (v.g.getD 13 0), bv (v.g.getD 14 0), bv (v.g.getD 15 0)] [bv (o.v.g.getD 0 0), bv (o.v.g.getD 1 0), bv (o.v.g.getD 2 0), bv (o.v.g.getD 3 0), bv (o.v.g.getD 4 0), bv (o.v.g.getD 5 0), bv (o.v.g.getD 6 0), bv (o.v.g.getD 7 0), bv (o.v.g.getD 8 0), bv (o.v.g.getD 9 0), bv (o.v.g.getD 10 0), bv (o.v.g.getD 11 0), bv (o.v.g.getD 12 0), bv (o.v.g.getD 13 0), bv (o.v.g.getD 14 0), bv (o.v.g.getD 15 0)]) = true from hng]
 rw [decide_eq_false hk1, decide_eq_true hk]
 refine ggO (k := ?_)
 (refine sts (k := ?_))
 refine draw_of (p := 0) tbOk hm [0, 1, 3, 7, 15, 31, 63, 127, 255, 511, 511, 511, 3583, 7679, 16383, 32767, 65535, 131071, 262143] [⟨0, false, false, []⟩, ⟨1, false, false, []⟩, ⟨2, false, false, []⟩, ⟨3, false, false, []⟩, ⟨4, false, false, []⟩, ⟨5, false, false, []⟩, ⟨6, false, false, []⟩, ⟨7, false, false, []⟩, ⟨8, false, false, []⟩, ⟨9, true, false, [152, 153, 154, 155, 156, 157, 158, 159, 160]⟩, ⟨10, false, false, []⟩, ⟨11, false, false, []⟩, ⟨12, true, false, [151, 155, 156, 157, 158, 159, 160]⟩, ⟨13, true, false, [151, 156, 157, 158, 159, 160]⟩, ⟨14, true, true, [157, 158, 159, 160]⟩, ⟨15, false, false, []⟩, ⟨16, false, false, []⟩, ⟨17, false, false, []⟩, ⟨18, false, false, []⟩] (by kernel_rfl) ?_
 refine ggO (k := ?_))
 intro _
 refine ggO (k := ?_)
 refine back_at (i + 1) hlt (by show V.length - (i + 1) < V.length - i; omega) ?_ ?_
 ·exact no_implicit_lambda% ten
 ·exact no_implicit_lambda% hen)
         ·have hG := kget_no s' 1 hlk' hgo' la lb v.nm v.g hok.ok.g hok.r (fun r hr e => hmem ⟨r, hr, e⟩) 4 5 6 6 4 5
          rcases hk with hk | hk
          ·refine cmks (hG) Tryz.call44 (hon := rowu) 6 [40, 41, 42, 46, 47, 53] [0, 0, 0, 0, 0, 0] [] ?_
           (
 (
 conv => whnf
 refine And.intro ⟨.inr rfl, .inr rfl, .inr rfl, .inr rfl, .inr rfl, .inr rfl, trivial⟩ ?_
 refine ggO (k := ?_)
 (refine sts (k := ?_))
 refine draw_of (p := 0) tbOk hm [0, 0, 3, 7, 15, 0, 32, 96, 255, 511, 1023, 1023, 4095, 8191, 16383, 1023, 33791, 99327, 262143, 524287, 1048575, 2097151, 4194303, 8388607, 16777215, 33554431, 67108863, 134217727, 268435455, 536870911, 1073741823] [⟨0, false, false, []⟩, ⟨1, false, false, []⟩, ⟨2, true, false, [115, 116, 117, 118, 119, 120, 121, 122, 123, 124, 125, 126, 127, 128, 129, 130, 131, 132, 133, 134, 135, 136, 137, 138, 139, 140, 141, 23]⟩, ⟨3, true, false, [116, 117, 118, 119, 120, 121, 122, 123, 124, 125, 126, 127, 128, 129, 130, 131, 132, 133, 134, 135, 136, 137, 138, 139, 140, 141, 23]⟩, ⟨4, true, false, [117, 118, 119, 120, 121, 122, 123, 124, 125, 126, 127, 128, 129, 130, 131, 132, 133, 134, 135, 136, 137, 138, 139, 140, 141, 23]⟩, ⟨5, true, false, [112, 113, 114, 115, 116, 118, 119, 120, 121, 122, 123, 124, 125, 126, 127, 128, 129, 130, 131, 132, 133, 134, 135, 136, 137, 138, 139, 140, 141, 23]⟩, ⟨6, true, false, [112, 113, 114, 115, 116, 119, 120, 121, 122, 123, 124, 125, 126, 127, 128, 129, 130, 131, 132, 133, 134, 135, 136, 137, 138, 139, 140, 141, 23]⟩, ⟨7, true, false, [112, 113, 114, 115, 116, 120, 121, 122, 123, 124, 125, 126, 127, 128, 129, 130, 131, 132, 133, 134, 135, 136, 137, 138, 139, 140, 141, 23]⟩, ⟨8, false, false, []⟩, ⟨9, false, false, []⟩, ⟨10, false, false, []⟩, ⟨11, false, false, []⟩, ⟨12, true, false, [125, 126, 127, 128, 129, 130, 131, 132, 133, 134, 135, 136, 137, 138, 139, 140, 141, 23]⟩, ⟨13, true, false, [126, 127, 128, 129, 130, 131, 132, 133, 134, 135, 136, 137, 138, 139, 140, 141, 23]⟩, ⟨14, true, false, [127, 128, 129, 130, 131, 132, 133, 134, 135, 136, 137, 138, 139, 140, 141, 23]⟩, ⟨15, true, false, [122, 123, 124, 125, 126, 128, 129, 130, 131, 132, 133, 134, 135, 136, 137, 138, 139, 140, 141, 23]⟩, ⟨16, true, false, [122, 123, 124, 125, 126, 129, 130, 131, 132, 133, 134, 135, 136, 137, 138, 139, 140, 141, 23]⟩, ⟨17, true, false, [122, 123, 124, 125, 126, 130, 131, 132, 133, 134, 135, 136, 137, 138, 139, 140, 141, 23]⟩, ⟨18, false, false, []⟩, ⟨19, false, false, []⟩, ⟨20, false, false, []⟩, ⟨21, true, false, [134, 135, 136, 137, 138, 139, 140, 141, 23]⟩, ⟨22, true, false, [135, 136, 137, 138, 139, 140, 141, 23]⟩, ⟨23, false, false, []⟩, ⟨24, false, false, []⟩, ⟨25, true, false, [138, 139, 140, 141, 23]⟩, ⟨26, true, false, [139, 140, 141, 23]⟩, ⟨27, false, false, []⟩, ⟨28, false, false, []⟩, ⟨29, false, false, []⟩, ⟨30, false, false, []⟩] (by kernel_rfl) ?_
 refine ggO (k := ?_)
 simp only [h0i, hv]
 rw [show (decide (v.nm.data.toList = o.v.nm.data.toList) && eqVs [bv (v.g.getD 0 0), bv (v.g.getD 1 0), bv (v.g.getD 2 0), bv (v.g.getD 3 0), bv (v.g.getD 4 0), bv (v.g.getD 5 0), bv (v.g.getD 6 0), bv (v.g.getD 7 0), bv (v.g.getD 8 0), bv (v.g.getD 9 0), bv (v.g.getD 10 0), bv (v.g.getD 11 0), bv (v.g.getD 12 0), bv (v.g.getD 13 0), bv (v.g.getD 14 0), bv (v.g.getD 15 0)] [bv (o.v.g.getD 0 0), bv (o.v.g.getD 1 0), bv (o.v.g.getD 2 0), bv (o.v.g.getD 3 0), bv (o.v.g.getD 4 0), bv (o.v.g.getD 5 0), bv (o.v.g.getD 6 0), bv (o.v.g.getD 7 0), bv (o.v.g.getD 8 0), bv (o.v.g.getD 9 0), bv (o.v.g.getD 10 0), bv (o.v.g.getD 11 0), bv (o.v.g.getD 12 0), bv (o.v.g.getD 13 0), bv (o.v.g.getD 14 0), bv (o.v.g.getD 15 0)]) = true from hng]
 rw [decide_eq_true hk]
 refine ggO (k := ?_)
 (refine sts (k := ?_))
 refine draw_of (p := 0) tbOk hm [0, 1, 3, 7, 15, 31, 63, 127, 255, 511, 511, 511, 3583, 7679, 16383, 32767, 65535, 131071, 262143] [⟨0, false, false, []⟩, ⟨1, false, false, []⟩, ⟨2, false, false, []⟩, ⟨3, false, false, []⟩, ⟨4, false, false, []⟩, ⟨5, false, false, []⟩, ⟨6, false, false, []⟩, ⟨7, false, false, []⟩, ⟨8, false, false, []⟩, ⟨9, true, false, [152, 153, 154, 155, 156, 157, 158, 159, 160]⟩, ⟨10, false, false, []⟩, ⟨11, false, false, []⟩, ⟨12, true, false, [151, 155, 156, 157, 158, 159, 160]⟩, ⟨13, true, false, [151, 156, 157, 158, 159, 160]⟩, ⟨14, true, true, [157, 158, 159, 160]⟩, ⟨15, false, false, []⟩, ⟨16, false, false, []⟩, ⟨17, false, false, []⟩, ⟨18, false, false, []⟩] (by kernel_rfl) ?_
 refine ggO (k := ?_))
 intro _
 refine ggO (k := ?_)
 refine back_at (i + 1) hlt (by show V.length - (i + 1) < V.length - i; omega) ?_ ?_
 ·exact no_implicit_lambda% ten
 ·exact no_implicit_lambda% hen)
          ·have hk1 : ¬ o.K = 1 := by omega
           refine cmks (hG) Tryz.call44 (hon := rowu) 6 [40, 41, 42, 46, 47, 53] [0, 0, 0, 0, 0, 0] [] ?_
           (
 (
 conv => whnf
 refine And.intro ⟨.inr rfl, .inr rfl, .inr rfl, .inr rfl, .inr rfl, .inr rfl, trivial⟩ ?_
 refine ggO (k := ?_)
 (refine sts (k := ?_))
 refine draw_of (p := 0) tbOk hm [0, 0, 3, 7, 15, 0, 32, 96, 255, 511, 1023, 1023, 4095, 8191, 16383, 1023, 33791, 99327, 262143, 524287, 1048575, 2097151, 4194303, 8388607, 16777215, 33554431, 67108863, 134217727, 268435455, 536870911, 1073741823] [⟨0, false, false, []⟩, ⟨1, false, false, []⟩, ⟨2, true, false, [115, 116, 117, 118, 119, 120, 121, 122, 123, 124, 125, 126, 127, 128, 129, 130, 131, 132, 133, 134, 135, 136, 137, 138, 139, 140, 141, 23]⟩, ⟨3, true, false, [116, 117, 118, 119, 120, 121, 122, 123, 124, 125, 126, 127, 128, 129, 130, 131, 132, 133, 134, 135, 136, 137, 138, 139, 140, 141, 23]⟩, ⟨4, true, false, [117, 118, 119, 120, 121, 122, 123, 124, 125, 126, 127, 128, 129, 130, 131, 132, 133, 134, 135, 136, 137, 138, 139, 140, 141, 23]⟩, ⟨5, true, false, [112, 113, 114, 115, 116, 118, 119, 120, 121, 122, 123, 124, 125, 126, 127, 128, 129, 130, 131, 132, 133, 134, 135, 136, 137, 138, 139, 140, 141, 23]⟩, ⟨6, true, false, [112, 113, 114, 115, 116, 119, 120, 121, 122, 123, 124, 125, 126, 127, 128, 129, 130, 131, 132, 133, 134, 135, 136, 137, 138, 139, 140, 141, 23]⟩, ⟨7, true, false, [112, 113, 114, 115, 116, 120, 121, 122, 123, 124, 125, 126, 127, 128, 129, 130, 131, 132, 133, 134, 135, 136, 137, 138, 139, 140, 141, 23]⟩, ⟨8, false, false, []⟩, ⟨9, false, false, []⟩, ⟨10, false, false, []⟩, ⟨11, false, false, []⟩, ⟨12, true, false, [125, 126, 127, 128, 129, 130, 131, 132, 133, 134, 135, 136, 137, 138, 139, 140, 141, 23]⟩, ⟨13, true, false, [126, 127, 128, 129, 130, 131, 132, 133, 134, 135, 136, 137, 138, 139, 140, 141, 23]⟩, ⟨14, true, false, [127, 128, 129, 130, 131, 132, 133, 134, 135, 136, 137, 138, 139, 140, 141, 23]⟩, ⟨15, true, false, [122, 123, 124, 125, 126, 128, 129, 130, 131, 132, 133, 134, 135, 136, 137, 138, 139, 140, 141, 23]⟩, ⟨16, true, false, [122, 123, 124, 125, 126, 129, 130, 131, 132, 133, 134, 135, 136, 137, 138, 139, 140, 141, 23]⟩, ⟨17, true, false, [122, 123, 124, 125, 126, 130, 131, 132, 133, 134, 135, 136, 137, 138, 139, 140, 141, 23]⟩, ⟨18, false, false, []⟩, ⟨19, false, false, []⟩, ⟨20, false, false, []⟩, ⟨21, true, false, [134, 135, 136, 137, 138, 139, 140, 141, 23]⟩, ⟨22, true, false, [135, 136, 137, 138, 139, 140, 141, 23]⟩, ⟨23, false, false, []⟩, ⟨24, false, false, []⟩, ⟨25, true, false, [138, 139, 140, 141, 23]⟩, ⟨26, true, false, [139, 140, 141, 23]⟩, ⟨27, false, false, []⟩, ⟨28, false, false, []⟩, ⟨29, false, false, []⟩, ⟨30, false, false, []⟩] (by kernel_rfl) ?_
 refine ggO (k := ?_)
 simp only [h0i, hv]
 rw [show (decide (v.nm.data.toList = o.v.nm.data.toList) && eqVs [bv (v.g.getD 0 0), bv (v.g.getD 1 0), bv (v.g.getD 2 0), bv (v.g.getD 3 0), bv (v.g.getD 4 0), bv (v.g.getD 5 0), bv (v.g.getD 6 0), bv (v.g.getD 7 0), bv (v.g.getD 8 0), bv (v.g.getD 9 0), bv (v.g.getD 10 0), bv (v.g.getD 11 0), bv (v.g.getD 12 0), bv (v.g.getD 13 0), bv (v.g.getD 14 0), bv (v.g.getD 15 0)] [bv (o.v.g.getD 0 0), bv (o.v.g.getD 1 0), bv (o.v.g.getD 2 0), bv (o.v.g.getD 3 0), bv (o.v.g.getD 4 0), bv (o.v.g.getD 5 0), bv (o.v.g.getD 6 0), bv (o.v.g.getD 7 0), bv (o.v.g.getD 8 0), bv (o.v.g.getD 9 0), bv (o.v.g.getD 10 0), bv (o.v.g.getD 11 0), bv (o.v.g.getD 12 0), bv (o.v.g.getD 13 0), bv (o.v.g.getD 14 0), bv (o.v.g.getD 15 0)]) = true from hng]
 rw [decide_eq_false hk1, decide_eq_true hk]
 refine ggO (k := ?_)
 (refine sts (k := ?_))
 refine draw_of (p := 0) tbOk hm [0, 1, 3, 7, 15, 31, 63, 127, 255, 511, 511, 511, 3583, 7679, 16383, 32767, 65535, 131071, 262143] [⟨0, false, false, []⟩, ⟨1, false, false, []⟩, ⟨2, false, false, []⟩, ⟨3, false, false, []⟩, ⟨4, false, false, []⟩, ⟨5, false, false, []⟩, ⟨6, false, false, []⟩, ⟨7, false, false, []⟩, ⟨8, false, false, []⟩, ⟨9, true, false, [152, 153, 154, 155, 156, 157, 158, 159, 160]⟩, ⟨10, false, false, []⟩, ⟨11, false, false, []⟩, ⟨12, true, false, [151, 155, 156, 157, 158, 159, 160]⟩, ⟨13, true, false, [151, 156, 157, 158, 159, 160]⟩, ⟨14, true, true, [157, 158, 159, 160]⟩, ⟨15, false, false, []⟩, ⟨16, false, false, []⟩, ⟨17, false, false, []⟩, ⟨18, false, false, []⟩] (by kernel_rfl) ?_
 refine ggO (k := ?_))
 intro _
 refine ggO (k := ?_)
 refine back_at (i + 1) hlt (by show V.length - (i + 1) < V.length - i; omega) ?_ ?_
 ·exact no_implicit_lambda% ten
 ·exact no_implicit_lambda% hen)
        ·have hk1 : ¬ o.K = 1 := fun q => hk (.inl q)
         have hk2 : ¬ o.K = 2 := fun q => hk (.inr q)
         have hG := kget_z s' 1 hlk' hgo' la lb v hok (hkeep v hok hin fun q => hk q.2.2) 4 5 6 6 4 5
         refine cmks (hG) Tryz.call44 (hon := rowu) 6 [40, 41, 42, 46, 47, 53] [0, 0, 0, 0, 0, 0] [] ?_
         (
 conv => whnf
 refine And.intro ⟨.inr rfl, .inr rfl, .inr rfl, .inr rfl, .inr rfl, .inr rfl, trivial⟩ ?_
 refine ggO (k := ?_)
 (refine sts (k := ?_))
 refine draw_of (p := 0) tbOk hm [0, 0, 3, 7, 15, 0, 32, 96, 255, 511, 1023, 1023, 4095, 8191, 16383, 1023, 33791, 99327, 262143, 524287, 1048575, 2097151, 4194303, 8388607, 16777215, 33554431, 67108863, 134217727, 268435455, 536870911, 1073741823] [⟨0, false, false, []⟩, ⟨1, false, false, []⟩, ⟨2, true, false, [115, 116, 117, 118, 119, 120, 121, 122, 123, 124, 125, 126, 127, 128, 129, 130, 131, 132, 133, 134, 135, 136, 137, 138, 139, 140, 141, 23]⟩, ⟨3, true, false, [116, 117, 118, 119, 120, 121, 122, 123, 124, 125, 126, 127, 128, 129, 130, 131, 132, 133, 134, 135, 136, 137, 138, 139, 140, 141, 23]⟩, ⟨4, true, false, [117, 118, 119, 120, 121, 122, 123, 124, 125, 126, 127, 128, 129, 130, 131, 132, 133, 134, 135, 136, 137, 138, 139, 140, 141, 23]⟩, ⟨5, true, false, [112, 113, 114, 115, 116, 118, 119, 120, 121, 122, 123, 124, 125, 126, 127, 128, 129, 130, 131, 132, 133, 134, 135, 136, 137, 138, 139, 140, 141, 23]⟩, ⟨6, true, false, [112, 113, 114, 115, 116, 119, 120, 121, 122, 123, 124, 125, 126, 127, 128, 129, 130, 131, 132, 133, 134, 135, 136, 137, 138, 139, 140, 141, 23]⟩, ⟨7, true, false, [112, 113, 114, 115, 116, 120, 121, 122, 123, 124, 125, 126, 127, 128, 129, 130, 131, 132, 133, 134, 135, 136, 137, 138, 139, 140, 141, 23]⟩, ⟨8, false, false, []⟩, ⟨9, false, false, []⟩, ⟨10, false, false, []⟩, ⟨11, false, false, []⟩, ⟨12, true, false, [125, 126, 127, 128, 129, 130, 131, 132, 133, 134, 135, 136, 137, 138, 139, 140, 141, 23]⟩, ⟨13, true, false, [126, 127, 128, 129, 130, 131, 132, 133, 134, 135, 136, 137, 138, 139, 140, 141, 23]⟩, ⟨14, true, false, [127, 128, 129, 130, 131, 132, 133, 134, 135, 136, 137, 138, 139, 140, 141, 23]⟩, ⟨15, true, false, [122, 123, 124, 125, 126, 128, 129, 130, 131, 132, 133, 134, 135, 136, 137, 138, 139, 140, 141, 23]⟩, ⟨16, true, false, [122, 123, 124, 125, 126, 129, 130, 131, 132, 133, 134, 135, 136, 137, 138, 139, 140, 141, 23]⟩, ⟨17, true, false, [122, 123, 124, 125, 126, 130, 131, 132, 133, 134, 135, 136, 137, 138, 139, 140, 141, 23]⟩, ⟨18, false, false, []⟩, ⟨19, false, false, []⟩, ⟨20, false, false, []⟩, ⟨21, true, false, [134, 135, 136, 137, 138, 139, 140, 141, 23]⟩, ⟨22, true, false, [135, 136, 137, 138, 139, 140, 141, 23]⟩, ⟨23, false, false, []⟩, ⟨24, false, false, []⟩, ⟨25, true, false, [138, 139, 140, 141, 23]⟩, ⟨26, true, false, [139, 140, 141, 23]⟩, ⟨27, false, false, []⟩, ⟨28, false, false, []⟩, ⟨29, false, false, []⟩, ⟨30, false, false, []⟩] (by kernel_rfl) ?_
 refine ggO (k := ?_)
 simp only [h0i, hv]
 rw [show (decide (v.nm.data.toList = o.v.nm.data.toList) && eqVs [bv (v.g.getD 0 0), bv (v.g.getD 1 0), bv (v.g.getD 2 0), bv (v.g.getD 3 0), bv (v.g.getD 4 0), bv (v.g.getD 5 0), bv (v.g.getD 6 0), bv (v.g.getD 7 0), bv (v.g.getD 8 0), bv (v.g.getD 9 0), bv (v.g.getD 10 0), bv (v.g.getD 11 0), bv (v.g.getD 12 0), bv (v.g.getD 13 0), bv (v.g.getD 14 0), bv (v.g.getD 15 0)] [bv (o.v.g.getD 0 0), bv (o.v.g.getD 1 0), bv (o.v.g.getD 2 0), bv (o.v.g.getD 3 0), bv (o.v.g.getD 4 0), bv (o.v.g.getD 5 0), bv (o.v.g.getD 6 0), bv (o.v.g.getD 7 0), bv (o.v.g.getD 8 0), bv (o.v.g.getD 9 0), bv (o.v.g.getD 10 0), bv (o.v.g.getD 11 0), bv (o.v.g.getD 12 0), bv (o.v.g.getD 13 0), bv (o.v.g.getD 14 0), bv (o.v.g.getD 15 0)]) = true from hng]
 rw [decide_eq_false hk1, decide_eq_false hk2]
 refine ggO (k := ?_)
 (refine sts (k := ?_))
 refine draw_of (p := 0) tbOk hm [0, 1, 3, 7, 15, 31, 63, 127, 255, 511, 511, 511, 3583, 7679, 16383, 32767, 65535, 131071, 262143] [⟨0, false, false, []⟩, ⟨1, false, false, []⟩, ⟨2, false, false, []⟩, ⟨3, false, false, []⟩, ⟨4, false, false, []⟩, ⟨5, false, false, []⟩, ⟨6, false, false, []⟩, ⟨7, false, false, []⟩, ⟨8, false, false, []⟩, ⟨9, true, false, [152, 153, 154, 155, 156, 157, 158, 159, 160]⟩, ⟨10, false, false, []⟩, ⟨11, false, false, []⟩, ⟨12, true, false, [151, 155, 156, 157, 158, 159, 160]⟩, ⟨13, true, false, [151, 156, 157, 158, 159, 160]⟩, ⟨14, true, true, [157, 158, 159, 160]⟩, ⟨15, false, false, []⟩, ⟨16, false, false, []⟩, ⟨17, false, false, []⟩, ⟨18, false, false, []⟩] (by kernel_rfl) ?_
 refine ggO (k := ?_))
         simp only [h0i, hv]
         conv => whnf
         refine gcl (hA := fun hG => by first | exact ⟨trivial, hG, hG, trivial⟩ | exact ⟨trivial, hG, trivial, trivial⟩) (k := ?_)
         refine cmks (samevar_vc v v hok.ok hok.ok 0 0) Tryz.call49 (hon := ⟨varA_on (x := .bs 0 v.d) trivial v, varA_on (x := .bs 0 v.d) trivial v, trivial⟩) 0 [] [] [] ?_
         rw [(sameV_iff hok.ok hok.ok).2 rfl]
         refine ggO (k := ?_)
         refine back_at (i + 1) hlt (by show V.length - (i + 1) < V.length - i; omega) ?_ ?_
         ·exact no_implicit_lambda% ten
         ·exact no_implicit_lambda% hen
       ·rw [decide_eq_false hs] at hng
        have hG := kget_z s' 1 hlk' hgo' la lb v hok (hkeep v hok hin fun q => hs ⟨q.1, q.2.1⟩) 4 5 6 6 4 5
        refine cmks (hG) Tryz.call44 (hon := rowu) 6 [40, 41, 42, 46, 47, 53] [0, 0, 0, 0, 0, 0] [] ?_
        conv => whnf
        refine And.intro ⟨.inr rfl, .inr rfl, .inr rfl, .inr rfl, .inr rfl, .inr rfl, trivial⟩ ?_
        refine ggO (k := ?_)
        (refine sts (k := ?_))
        refine draw_of (p := 0) tbOk hm [0, 0, 3, 7, 15, 0, 32, 96, 255, 511, 1023, 1023, 4095, 8191, 16383, 1023, 33791, 99327, 262143, 524287, 1048575, 2097151, 4194303, 8388607, 16777215, 33554431, 67108863, 134217727, 268435455, 536870911, 1073741823] [⟨0, false, false, []⟩, ⟨1, false, false, []⟩, ⟨2, true, false, [115, 116, 117, 118, 119, 120, 121, 122, 123, 124, 125, 126, 127, 128, 129, 130, 131, 132, 133, 134, 135, 136, 137, 138, 139, 140, 141, 23]⟩, ⟨3, true, false, [116, 117, 118, 119, 120, 121, 122, 123, 124, 125, 126, 127, 128, 129, 130, 131, 132, 133, 134, 135, 136, 137, 138, 139, 140, 141, 23]⟩, ⟨4, true, false, [117, 118, 119, 120, 121, 122, 123, 124, 125, 126, 127, 128, 129, 130, 131, 132, 133, 134, 135, 136, 137, 138, 139, 140, 141, 23]⟩, ⟨5, true, false, [112, 113, 114, 115, 116, 118, 119, 120, 121, 122, 123, 124, 125, 126, 127, 128, 129, 130, 131, 132, 133, 134, 135, 136, 137, 138, 139, 140, 141, 23]⟩, ⟨6, true, false, [112, 113, 114, 115, 116, 119, 120, 121, 122, 123, 124, 125, 126, 127, 128, 129, 130, 131, 132, 133, 134, 135, 136, 137, 138, 139, 140, 141, 23]⟩, ⟨7, true, false, [112, 113, 114, 115, 116, 120, 121, 122, 123, 124, 125, 126, 127, 128, 129, 130, 131, 132, 133, 134, 135, 136, 137, 138, 139, 140, 141, 23]⟩, ⟨8, false, false, []⟩, ⟨9, false, false, []⟩, ⟨10, false, false, []⟩, ⟨11, false, false, []⟩, ⟨12, true, false, [125, 126, 127, 128, 129, 130, 131, 132, 133, 134, 135, 136, 137, 138, 139, 140, 141, 23]⟩, ⟨13, true, false, [126, 127, 128, 129, 130, 131, 132, 133, 134, 135, 136, 137, 138, 139, 140, 141, 23]⟩, ⟨14, true, false, [127, 128, 129, 130, 131, 132, 133, 134, 135, 136, 137, 138, 139, 140, 141, 23]⟩, ⟨15, true, false, [122, 123, 124, 125, 126, 128, 129, 130, 131, 132, 133, 134, 135, 136, 137, 138, 139, 140, 141, 23]⟩, ⟨16, true, false, [122, 123, 124, 125, 126, 129, 130, 131, 132, 133, 134, 135, 136, 137, 138, 139, 140, 141, 23]⟩, ⟨17, true, false, [122, 123, 124, 125, 126, 130, 131, 132, 133, 134, 135, 136, 137, 138, 139, 140, 141, 23]⟩, ⟨18, false, false, []⟩, ⟨19, false, false, []⟩, ⟨20, false, false, []⟩, ⟨21, true, false, [134, 135, 136, 137, 138, 139, 140, 141, 23]⟩, ⟨22, true, false, [135, 136, 137, 138, 139, 140, 141, 23]⟩, ⟨23, false, false, []⟩, ⟨24, false, false, []⟩, ⟨25, true, false, [138, 139, 140, 141, 23]⟩, ⟨26, true, false, [139, 140, 141, 23]⟩, ⟨27, false, false, []⟩, ⟨28, false, false, []⟩, ⟨29, false, false, []⟩, ⟨30, false, false, []⟩] (by kernel_rfl) ?_
        refine ggO (k := ?_)
        simp only [h0i, hv]
        rw [show (decide (v.nm.data.toList = o.v.nm.data.toList) && eqVs [bv (v.g.getD 0 0), bv (v.g.getD 1 0), bv (v.g.getD 2 0), bv (v.g.getD 3 0), bv (v.g.getD 4 0), bv (v.g.getD 5 0), bv (v.g.getD 6 0), bv (v.g.getD 7 0), bv (v.g.getD 8 0), bv (v.g.getD 9 0), bv (v.g.getD 10 0), bv (v.g.getD 11 0), bv (v.g.getD 12 0), bv (v.g.getD 13 0), bv (v.g.getD 14 0), bv (v.g.getD 15 0)] [bv (o.v.g.getD 0 0), bv (o.v.g.getD 1 0), bv (o.v.g.getD 2 0), bv (o.v.g.getD 3 0), bv (o.v.g.getD 4 0), bv (o.v.g.getD 5 0), bv (o.v.g.getD 6 0), bv (o.v.g.getD 7 0), bv (o.v.g.getD 8 0), bv (o.v.g.getD 9 0), bv (o.v.g.getD 10 0), bv (o.v.g.getD 11 0), bv (o.v.g.getD 12 0), bv (o.v.g.getD 13 0), bv (o.v.g.getD 14 0), bv (o.v.g.getD 15 0)]) = false from hng]
        refine ggO (k := ?_)
        (refine sts (k := ?_))
        refine draw_of (p := 0) tbOk hm [0, 1, 3, 7, 15, 31, 63, 127, 255, 511, 511, 511, 3583, 7679, 16383, 32767, 65535, 131071, 262143] [⟨0, false, false, []⟩, ⟨1, false, false, []⟩, ⟨2, false, false, []⟩, ⟨3, false, false, []⟩, ⟨4, false, false, []⟩, ⟨5, false, false, []⟩, ⟨6, false, false, []⟩, ⟨7, false, false, []⟩, ⟨8, false, false, []⟩, ⟨9, true, false, [152, 153, 154, 155, 156, 157, 158, 159, 160]⟩, ⟨10, false, false, []⟩, ⟨11, false, false, []⟩, ⟨12, true, false, [151, 155, 156, 157, 158, 159, 160]⟩, ⟨13, true, false, [151, 156, 157, 158, 159, 160]⟩, ⟨14, true, true, [157, 158, 159, 160]⟩, ⟨15, false, false, []⟩, ⟨16, false, false, []⟩, ⟨17, false, false, []⟩, ⟨18, false, false, []⟩] (by kernel_rfl) ?_
        refine ggO (k := ?_)
        simp only [h0i, hv]
        conv => whnf
        refine gcl (hA := fun hG => by first | exact ⟨trivial, hG, hG, trivial⟩ | exact ⟨trivial, hG, trivial, trivial⟩) (k := ?_)
        refine cmks (samevar_vc v v hok.ok hok.ok 0 0) Tryz.call49 (hon := ⟨varA_on (x := .bs 0 v.d) trivial v, varA_on (x := .bs 0 v.d) trivial v, trivial⟩) 0 [] [] [] ?_
        rw [(sameV_iff hok.ok hok.ok).2 rfl]
        refine ggO (k := ?_)
        refine back_at (i + 1) hlt (by show V.length - (i + 1) < V.length - i; omega) ?_ ?_
        ·exact no_implicit_lambda% ten
        ·exact no_implicit_lambda% hen
      ·have hi : i = V.length := by have := of_decide_eq_false h; omega
       clear hkeep hsp h hS
       refine ggO (k := ?_)
       rcases hmark with ⟨k5, e0, hmk⟩ | ⟨hne, hmk⟩
       ·have hMK := kmark_in s' 1 hlk' hgo' la lb (u8 o.x) hmk 4 5 6 6 4 5
        have hox := ho.x
        have hux : (((u8 o.x).toNat : Nat) : Int) = o.x := by
         simp only [u8, UInt8.toNat_ofNat']
         omega
        refine cmks (hMK) Tryz.call47 6 [40, 41, 42, 46, 47, 53] [0, 0, 0, 0, 0, 0] [] ?_
        refine ggO (k := ?_)
        rw [decide_eq_true k5]
        refine ggO (k := ?_)
        rw [decide_eq_true e0]
        refine ggO (k := ?_)
        rw [show decide ((((u8 o.x).toNat : Nat) : Int) = o.x) = true from decide_eq_true hux]
        refine ggO (k := ?_)
        refine cmks (works21_vc) Tryz.call40 0 [] [] [] ?_
        refine ggO (k := ?_)
        exact ⟨_, rfl, rfl, trivial⟩
       ·have hMK := kmark_no s' 1 hlk' hgo' la lb hmk 4 5 6 6 4 5
        refine cmks (hMK) Tryz.call47 6 [40, 41, 42, 46, 47, 53] [0, 0, 0, 0, 0, 0] [] ?_
        refine ggO (k := ?_)
        by_cases k5 : o.K = 5
        ·have e0 : ¬ e = 0 := fun q => hne ⟨k5, q⟩
         rw [decide_eq_true k5]
         refine ggO (k := ?_)
         refine cmks (works21_vc) Tryz.call40 0 [] [] [] ?_
         refine ggO (k := ?_)
         exact ⟨_, rfl, rfl, trivial⟩
        ·rw [decide_eq_false k5]
         refine ggO (k := ?_)
         refine cmks (works21_vc) Tryz.call40 0 [] [] [] ?_
         refine ggO (k := ?_)
         exact ⟨_, rfl, rfl, trivial⟩
end Go.Proofs.YtpbpiehcchannaaGreatDoor
