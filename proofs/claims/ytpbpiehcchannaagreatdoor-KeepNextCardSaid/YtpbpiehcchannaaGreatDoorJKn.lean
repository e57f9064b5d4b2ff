/- A book beside a map, and puts one behind the other: walks and plain law. Walks of lintellaw21: twin, filled, long, names. Walks of lintellaw21: long. Conditions: the premises of each law. -/
import Derived.Test.YtpbpiehcchannaaGreatDoorJKm2
import Derived.Test.YtpbpiehcchannaaGreatDoorJKk
namespace Go.Proofs.YtpbpiehcchannaaGreatDoor
open Go.RowKit
set_option linter.unusedVariables false
set_option linter.unusedSimpArgs false
set_option maxRecDepth 100000
set_option maxHeartbeats 1500000
structure VOk (v : VarV) : Prop where
 ok : v.Ok
 r : rightN v.nm = true
 t : v.t.good
 d : v.d.length ≤ 65484
def rcdV (v : VarV) : RK := ⟨keyV v.nm v.g, laidV v, true⟩
def RecB (r : RK) : Prop := (∃ v : VarV, VOk v ∧ r = rcdV v) ∨ ∃ x : UInt8, r = ⟨markK, [x], true⟩
theorem putOk_VOk {v : VarV} (hv : v.Ok) (h : putOk v = true) : VOk v := by
 unfold putOk at h
 simp only [Bool.and_eq_true, Bool.or_eq_true, decide_eq_true_eq] at h
 refine ⟨hv, h.1.1, ⟨hv.t, ?_⟩, h.2⟩
 rcases h.1.2 with h1 | h1
 ·exact .inr h1
 ·left
  unfold Tm.nil at h1
  simp only [Bool.and_eq_true, decide_eq_true_eq] at h1
  obtain ⟨nm, g, a, ⟨y, m, d, h, mi, s⟩, o, d'⟩ := v
  simp only at h1
  obtain ⟨⟨⟨⟨⟨rfl, rfl⟩, rfl⟩, rfl⟩, rfl⟩, rfl⟩ := h1
  rfl
theorem VOk.put {v : VarV} (h : VOk v) : putOk v = true := by
 unfold putOk
 rw [h.r, decide_eq_true h.d, Bool.true_and, Bool.and_true, Bool.or_eq_true]
 rcases h.t.2 with h1 | h1
 ·right; rw [h1]; rfl
 ·exact .inl h1
def kputP (s : FlS) (v : VarV) : Int × FlS := if putOk v = true then s.set 1 (keyV v.nm v.g) (laidV v) else (1, s)
theorem kput_vc {W : Int} {n k : Nat} (s : FlS) (go : Goes W n k s) (hW : W ≤ 1000000000000000) (pa : Lies n k 0 1) (pb : Lies n k 1 1) (hd : s.dd = false) (v : VarV) (hv : v.Ok) (z vk vs va vb v0 v1 : Nat) : Spec Tryz.prog 59 [.ref 0 vk 1 0 0, .agg (varA (.bs z v.d) v)] [⟨vk, .obj [.ref 1 vs 3 0 0]⟩, ⟨vs, .obj [.ref 4 v0 6 0 0, .ref 2 va 3 0 0, .ref 3 vb 3 0 0]⟩, ⟨va, .obj [.ref 4 v0 6 0 0, .val (.int .i64 ((0 : Nat) : Int)), .val (.int .i64 (1 : Int))]⟩, ⟨vb, .obj [.ref 4 v0 6 0 0, .val (.int .i64 (1 : Int)), .val (.int .i64 (1 : Int))]⟩, ⟨v0, .obj [.own 5 v1 1 0 s.l.length, .val (.int .i64 (s.k : Int)), .val (.int .i64 s.ar), .val (.int .i64 s.pt), .val (.bool s.dd), .val (.int .i64 s.wr)]⟩, ⟨v1, .bytes s.l⟩]
   (pms (.val (.int .i64 (kputP s v).1)) [⟨vk, .obj [.ref 1 vs 3 0 0]⟩, ⟨vs, .obj [.ref 4 v0 6 0 0, .ref 2 va 3 0 0, .ref 3 vb 3 0 0]⟩, ⟨va, .obj [.ref 4 v0 6 0 0, .val (.int .i64 ((0 : Nat) : Int)), .val (.int .i64 (1 : Int))]⟩, ⟨vb, .obj [.ref 4 v0 6 0 0, .val (.int .i64 (1 : Int)), .val (.int .i64 (1 : Int))]⟩, ⟨v0, .obj [.own 5 v1 1 0 (kputP s v).2.l.length, .val (.int .i64 ((kputP s v).2.k : Int)), .val (.int .i64 (kputP s v).2.ar), .val (.int .i64 (kputP s v).2.pt), .val (.bool (kputP s v).2.dd), .val (.int .i64 (kputP s v).2.wr)]⟩, ⟨v1, .bytes (kputP s v).2.l⟩] []) := by
 cases h : putOk v with
 | true =>
  have h2 := putOk_VOk hv h
  rw [show kputP s v = s.set 1 (keyV v.nm v.g) (laidV v) from if_pos h]
  exact put_kv s 1 go hW pa pb hd v hv h2.r h2.t h2.d z vk vs va vb v0 v1
 | false =>
  rw [show kputP s v = (1, s) from if_neg (by rw [h]; simp)]
  exact kput_bad s 1 v hv h z vk vs va vb v0 v1
structure NB (s : FlS) (y i : Nat) (M : List RK) : Prop where
 ex : ∃ G : Int, G ≤ i + 1 ∧ NM s 1 y G M
 go : Goes (14 + i * 300000000000) (2 * y) y s
 rc : ∀ r ∈ M, RecB r
 len : M.length ≤ i
theorem NB.live {s : FlS} {y i : Nat} {M : List RK} (h : NB s y i M) : s.dd = false := by
 obtain ⟨G, _, h1⟩ := h.ex
 exact h1.live
theorem NB.lk {s : FlS} {y i : Nat} {M : List RK} (h : NB s y i M) : LK s 1 M := by
 obtain ⟨G, _, h1⟩ := h.ex
 exact h1.lk
theorem lie0 {y : Nat} (hy : 128 ≤ y ∧ y ≤ 2175) : Lies (2 * y) y 0 1 := ⟨by omega, by omega, by omega, by omega⟩
theorem lie1 {y : Nat} (hy : 128 ≤ y ∧ y ≤ 2175) : Lies (2 * y) y 1 1 := ⟨by omega, by omega, by omega, by omega⟩
theorem setM_len (M : List RK) (key val : List UInt8) : (setM M key val).length ≤ M.length + 1 := by
 unfold setM
 rw [List.length_append]
 have := List.length_filter_le (fun r : RK => r.key != key) M
 simp only [List.length_cons, List.length_nil]
 omega
theorem NB.up {s : FlS} {y i : Nat} {M : List RK} (h : NB s y i M) : NB s y (i + 1) M := by
 obtain ⟨G, h1, h2⟩ := h.ex
 refine ⟨⟨G, by push_cast; omega, h2⟩, h.go.mono (by push_cast; omega), h.rc, ?_⟩
 have := h.len
 omega
theorem NB.set {s : FlS} {y i : Nat} {M : List RK} (h : NB s y i M) (hy : 128 ≤ y ∧ y ≤ 2175) (hi : i ≤ 1000) {key val : List UInt8} (hk : 1 ≤ key.length ∧ key.length ≤ 255) (hv : val.length ≤ 65536) (hr : RecB ⟨key, val, true⟩) :
    (s.set 1 key val = (5, s) ∧ NB s y (i + 1) M) ∨ (∃ s', s.set 1 key val = (0, s') ∧ NB s' y (i + 1) (setM M key val)) := by
 obtain ⟨G, h1, h2⟩ := h.ex
 have hgo := h.go.set (lie0 hy) (lie1 hy) key val
 obtain ⟨a, b⟩ := h2.set (by omega) (by omega) hk hv
 by_cases hf : 1 * y - 16 < usedK M + (12 + key.length + val.length)
 ·exact .inl ⟨a hf, h.up⟩
 ·obtain ⟨s', e, n⟩ := b (by omega)
  right
  rw [e] at hgo
  refine ⟨s', e, ⟨G + 1, by push_cast; omega, n⟩, hgo.mono (by push_cast; omega), ?_, ?_⟩
  ·intro r hr'
   unfold setM at hr'
   rcases List.mem_append.1 hr' with q | q
   ·exact h.rc r (List.mem_filter.1 q).1
   ·rw [List.mem_singleton] at q; subst q; exact hr
  ·have := setM_len M key val
   have := h.len
   omega
theorem keyV_len {v : VarV} (h : VOk v) : 1 ≤ (keyV v.nm v.g).length ∧ (keyV v.nm v.g).length ≤ 255 := by
 have := h.r
 unfold rightN at this
 simp only [Bool.and_eq_true, decide_eq_true_eq] at this
 unfold keyV
 rw [List.length_append, h.ok.g]
 simp only [Array.length_toList, ByteArray.size_data]
 omega
theorem NB.put {s : FlS} {y i : Nat} {M : List RK} (h : NB s y i M) (hy : 128 ≤ y ∧ y ≤ 2175) (hi : i ≤ 1000) (v : VarV) (hv : v.Ok) :
    (NB (kputP s v).2 y (i + 1) M ∧ (kputP s v).1 ≠ 0) ∨ (VOk v ∧ NB (kputP s v).2 y (i + 1) (setM M (keyV v.nm v.g) (laidV v)) ∧ (kputP s v).1 = 0) := by
 cases hP : putOk v with
 | false =>
  rw [show kputP s v = (1, s) from if_neg (by rw [hP]; simp)]
  exact .inl ⟨h.up, (by decide : (1 : Int) ≠ 0)⟩
 | true =>
  have h2 := putOk_VOk hv hP
  rw [show kputP s v = s.set 1 (keyV v.nm v.g) (laidV v) from if_pos hP]
  rcases h.set hy hi (keyV_len h2) (val := laidV v) (by rw [laid_len hv]; have := h2.d; omega) (.inl ⟨v, h2, rfl⟩) with ⟨e, n⟩ | ⟨s', e, n⟩
  ·rw [e]; exact .inl ⟨n, (by decide : (5 : Int) ≠ 0)⟩
  ·rw [e]; exact .inr ⟨h2, n, rfl⟩
end Go.Proofs.YtpbpiehcchannaaGreatDoor
namespace Go.Proofs.YtpbpiehcchannaaGreatDoor
open Go.RowKit
set_option linter.unusedVariables false
set_option linter.unusedSimpArgs false
set_option maxRecDepth 100000
set_option maxHeartbeats 1500000
theorem twin21_raw (z : Nat) (m : List UInt8) (hl : m.length ≤ 140737488355328) : Spec Tryz.prog 96 [.bs z m] [] (pms (.own 3 2 1 0 m.length) [] [(3, ⟨2, .bytes m⟩)]) := by
 refine spec_entry tbOk Tryz.func96 rfl Tryz.ntmps96 Tryz.results96 ?_
 refine gg (k := ?_)
 conv => whnf
 refine ⟨m, ?_⟩
 conv => whnf
 refine And.intro ?_ ?_
 ·refine ⟨rfl, trivial, rfl, rfl, rfl, rfl, rfl, rfl, ?_, by decide⟩
  simp only [List.map_nil, List.length_nil]
  omega
 refine gg (k := ?_)
 refine ⟨_, ?_, rfl, rfl, trivial⟩
 simp only [retV, List.map_nil, List.length_nil, Nat.zero_add]
theorem twin21_vc (z : Nat) (m : List UInt8) (hl : m.length ≤ 140737488355328) : Spec Tryz.prog 96 [.bs z m] [] (pms (.bs 0 m) [] []) :=
 spec_frz (twin21_raw z m hl) (by simp [geM]) (AF.own rfl rfl) trivial
def fillV (s : FlS) (l : List VarV) : Nat → FlS
 | 0 => s
 | i + 1 => (kputP (fillV s l i) (l.getD i varZ)).2
theorem fill_NB {s0 : FlS} {y : Nat} (hy : 128 ≤ y ∧ y ≤ 2175) (h0 : NB s0 y 0 []) (l : List VarV) (hl : ∀ v ∈ l, v.Ok) (hn : l.length ≤ 100) : ∀ i, i ≤ l.length → ∃ M, NB (fillV s0 l i) y i M ∧ ∀ r ∈ M, ∃ v, VOk v ∧ r = rcdV v
 | 0, _ => ⟨[], h0, by simp⟩
 | i + 1, hi => by
  obtain ⟨M, h1, h2⟩ := fill_NB hy h0 l hl hn i (by omega)
  have hv : (l.getD i varZ).Ok := by
   rw [List.getD_eq_getElem?_getD, List.getElem?_eq_getElem (by omega)]
   exact hl _ (List.getElem_mem (by omega))
  rcases h1.put hy (by omega) _ hv with ⟨a, _⟩ | ⟨a, b, _⟩
  ·exact ⟨M, a, h2⟩
  ·refine ⟨_, b, fun r hr => ?_⟩
   unfold setM at hr
   rcases List.mem_append.1 hr with q | q
   ·exact h2 r (List.mem_filter.1 q).1
   ·rw [List.mem_singleton] at q; exact ⟨_, a, q⟩
theorem new_NB {y : Nat} (hy : 128 ≤ y ∧ y ≤ 2175) : ∃ s1, (FlS.new 2 y).opn 1 = (0, s1) ∧ NB s1 y 0 [] := by
 obtain ⟨s1, b1, o1, m1⟩ := NM.new (c := 1) (k := y) (by omega) (by omega)
 have b1' : (FlS.new 2 y).bgn 0 1 1 [] = (0, s1) := b1
 have g0 : Goes 0 (2 * y) y (FlS.new 2 y) := Goes.new 2 y (by decide) (by omega)
 have g1 : Goes 14 (2 * y) y s1 := by have := g0.bgn0 1 1; rw [b1'] at this; exact this
 exact ⟨s1, o1, ⟨1, by decide, m1⟩, g1, by simp, Nat.le_refl _⟩
theorem filled21_vc (z : Int) (hz : 0 ≤ z ∧ z ≤ 65535) (s1 : FlS) (h1 : (FlS.new 2 (yOf z)).opn 1 = (0, s1)) (h0 : NB s1 (yOf z) 0 []) (l : List VarV) (hl : ∀ v ∈ l, v.Ok) (hn : l.length ≤ 100) : Spec Tryz.prog 41 [.val (.int .u16 z), .sl 0 57 (fun v : VarV => varA (.bs 0 v.d) v) varZ l] []
   (pms (.ref 11 3 1 0 0) [] [(11, ⟨3, .obj [.ref 12 4 3 0 0]⟩), (12, ⟨4, .obj [.ref 9 3 6 0 0, .ref 13 5 3 0 0, .ref 38 5 3 0 0]⟩), (13, ⟨5, .obj [.ref 9 3 6 0 0, .val (.int .i64 ((0 : Nat) : Int)), .val (.int .i64 ((1 : Nat) : Int))]⟩), (38, ⟨5, .obj [.ref 9 3 6 0 0, .val (.int .i64 ((1 : Nat) : Int)), .val (.int .i64 ((1 : Nat) : Int))]⟩), (9, ⟨3, .obj [.own 10 4 1 0 (fillV s1 l l.length).l.length, .val (.int .i64 ((fillV s1 l l.length).k : Int)), .val (.int .i64 (fillV s1 l l.length).ar), .val (.int .i64 (fillV s1 l l.length).pt), .val (.bool (fillV s1 l l.length).dd), .val (.int .i64 (fillV s1 l l.length).wr)]⟩), (10, ⟨4, .bytes (fillV s1 l l.length).l⟩)]) := by
 have hy := yOf_bd z
 have hfill := fill_NB hy h0 l hl hn
 have hB := begun_vc z hz s1 h1
 have la := lie0 hy
 have lb := lie1 hy
 refine spec_entry tbOk Tryz.func41 rfl Tryz.ntmps41 Tryz.results41 ?_
 refine gg (k := ?_)
 refine cmks (hB) Tryz.call50 0 [0, 0, 0, 0, 0, 0, 0, 0, 0, 0, 0, 0, 0, 0, 0, 0, 0, 0, 0, 0, 9, 11, 10, 12, 13, 38] [0, 0, 0, 0, 0, 0, 0, 0, 0, 0, 0, 0, 0, 0, 0, 0, 0, 0, 0, 0, 1, 1, 1, 1, 1, 1] [20, 22, 21, 23, 24, 25] ?_
 refine gg (k := ?_)
 (refine sts (k := ?_))
 conv => whnf
 refine loop_at (fun i : Nat => i ≤ l.length) (fun i => l.length - i) 0 [7, 8, 14, 15, 16, 17, 18, 19, 20, 21, 22, 23, 24, 25, 26, 27, 28, 29, 30, 31, 32, 33, 34, 35, 36, 37] (fun i => [(7, .val (.int .i64 (i : Int)))]) (fun i => [(9, ⟨3, .obj [.own 10 4 1 0 (fillV s1 l i).l.length, .val (.int .i64 ((fillV s1 l i).k : Int)), .val (.int .i64 (fillV s1 l i).ar), .val (.int .i64 (fillV s1 l i).pt), .val (.bool (fillV s1 l i).dd), .val (.int .i64 (fillV s1 l i).wr)]⟩), (10, ⟨4, .bytes (fillV s1 l i).l⟩)]) 0 (Nat.zero_le _) ?_ ?_ ?_
 ·exact no_implicit_lambda% ten
 ·exact no_implicit_lambda% hen
 ·rintro i v i1
  obtain ⟨M, hNB, _⟩ := hfill i i1
  refine glp (k := ?_)
  refine gg (k := ?_)
  rw [Bool.and_true]
  refine ⟨fun h => ?_, fun h => ?_⟩
  ·have hlt : i < l.length := by have := of_decide_eq_true h; omega
   have hvo : (l.getD i varZ).Ok := by rw [List.getD_eq_getElem?_getD, List.getElem?_eq_getElem hlt]; exact hl _ (List.getElem_mem hlt)
   have hput := kput_vc (fillV s1 l i) hNB.go (by omega) la lb hNB.live _ hvo 0 3 4 5 5 3 4
   have hfs : fillV s1 l (i + 1) = (kputP (fillV s1 l i) (l.getD i varZ)).2 := rfl
   have hdl := hvo.d
   refine gg (k := ?_)
   simp only [Int.toNat_natCast]
   generalize l.getD i varZ = u at hvo hput hfs hdl
   refine cmks (twin21_vc 0 u.d (by omega)) Tryz.call96 0 [] [] [] ?_
   unfold varA
   refine gg (k := ?_)
   refine cmks (hput) Tryz.call59 (hon := ⟨(by decide : 0 < 6), varA_on (x := .bs 0 u.d) (P := (· < 6)) trivial _, trivial⟩) 6 [11, 12, 13, 38, 9, 10] [0, 0, 0, 0, 0, 0] [] ?_
   refine gg (k := ?_)
   rw [← hfs]
   refine back_at (i + 1) hlt (by show l.length - (i + 1) < l.length - i; omega) ?_ ?_
   ·exact no_implicit_lambda% ten
   ·exact no_implicit_lambda% hen
  ·refine gg (k := ?_)
   have hi : i = l.length := by have := of_decide_eq_false h; omega
   subst hi
   exact ⟨_, rfl, rfl, rfl, rfl, rfl, rfl, rfl, rfl, trivial⟩
end Go.Proofs.YtpbpiehcchannaaGreatDoor
namespace Go.Proofs.YtpbpiehcchannaaGreatDoor
open Go.RowKit
set_option linter.unusedVariables false
set_option linter.unusedSimpArgs false
set_option maxRecDepth 100000
set_option maxHeartbeats 1500000
def opOf (v : VarV) : OpV := ⟨0, v, 0⟩
def longB (l : List VarV) : Bool := decide (60 < l.length) || vastO ((l.take 61).map opOf)
theorem vast21_own (l : List OpV) (n : Nat) (hn : n = l.length) (w : Nat) : Spec Tryz.prog 46 [.own 0 w 59 0 n] [⟨w, .row 59 opA opV0 l⟩] (pms (.val (.bool (vastO l))) [⟨w, .row 59 opA opV0 l⟩] []) :=
 spec_ro (vast21_vc 0 l) trivial trivial (rows := [⟨w, .row 59 opA opV0 l⟩]) (args := [.own 0 w 59 0 n])
  (asL_cons (as_slG (l0 := l) rfl hn hn.symm fun i x y hx hy => by
   rw [hx] at hy; cases hy; exact opA_as _ x) asL_nil)
theorem long_vc (l : List VarV) : Spec Tryz.prog 39 [.sl 0 57 (fun v : VarV => varA (.bs 0 v.d) v) varZ l] []
   (pms (.val (.bool (longB l))) [] []) := by
 refine spec_entry tbOk Tryz.func39 rfl Tryz.ntmps39 Tryz.results39 ?_
 refine gg (k := ?_)
 (refine sts (k := ?_))
 conv => whnf
 refine loop_le (leS_nil 22 1 (.row 59 opA opV0 []) rfl (by decide) rfl (t' := [.sl 0 57 (fun v : VarV => varA (.bs 0 v.d) v) varZ l, .any, .any, .own 22 1 59 0 0, .val (.int .i64 0), .any, .any, .any, .any, .any, .any, .any, .any, .any, .any, .any, .any, .any, .any, .any, .any, .any, .any, .any, .any, .any, .any, .any, .any, .any]) ?_) ?_
 ·simp [leTn, setD, setL, updH, evA, unA, getA, getL, constA, undefs, deads]
 dsimp only [setL]
 refine loop_at (fun i : Nat => i ≤ l.length ∧ i ≤ 61) (fun i => l.length - i) 0 [3, 4, 5, 6, 7, 8, 9, 10, 11, 12, 13, 14, 15, 16, 17, 18, 19, 20, 21, 22] (fun i => [(3, .own 22 (i + 1) 59 0 i), (4, .val (.int .i64 (i : Int)))])
  (fun i => [(22, ⟨i + 1, .row 59 opA opV0 ((l.take i).map opOf)⟩)]) 0 ⟨Nat.zero_le _, Nat.zero_le _⟩ ?_ ?_ ?_
 ·exact no_implicit_lambda% ten
 ·exact no_implicit_lambda% hen
 ·rintro i v ⟨i1, i2⟩
  refine glp (k := ?_)
  refine gg (k := ?_)
  refine ⟨fun h => ?_, fun h => ?_⟩
  ·have hlt : i < l.length ∧ i < 61 := by
     simp only [Bool.and_eq_true, decide_eq_true_eq] at h
     omega
   have hT : (l.take (i + 1)).map opOf = (l.take i).map opOf ++ [opOf (l.getD i varZ)] := by
    rw [List.take_succ_eq_append_getElem hlt.1, List.map_append, List.getD_eq_getElem?_getD, List.getElem?_eq_getElem hlt.1]; rfl
   have hTl : ((l.take i).map opOf).length = i := by rw [List.length_map, List.length_take]; omega
   have hTm : ((l.take (i + 1)).map opOf).length = i + 1 := by rw [List.length_map, List.length_take]; omega
   refine gg (k := ?_)
   simp only [Int.toNat_natCast]
   refine ⟨OpV, opA, opV0, (l.take (i + 1)).map opOf, ?_⟩
   conv => whnf
   refine And.intro ⟨rfl, ⟨rfl, rfl, Nat.le_refl _, fun q hq => (by (have hq0 : q = 0 := by simpa using hq); subst hq0; ((repeat' apply And.intro) <;> first | exact trivial | exact rfl))⟩, rfl, rfl, rfl, hTl.symm, .inr rfl, (by rw [hT, List.map_append]; rfl), (by rw [hTm]; show (i + 1) * 120 ≤ _; omega), by decide⟩ ?_
   rw [hTm]
   refine gg (k := ?_)
   refine back_at (i + 1) ⟨hlt.1, by omega⟩ (by show l.length - (i + 1) < l.length - i; omega) ?_ ?_
   ·exact no_implicit_lambda% ten
   ·exact no_implicit_lambda% hen
  ·refine gg (k := ?_)
   by_cases h60 : 60 < l.length
   ·rw [decide_eq_true (by omega : (60 : Int) < (l.length : Int))]
    refine ggO (k := ?_)
    intro _
    refine ggO (k := ?_)
    rw [show longB l = true by unfold longB; rw [decide_eq_true h60]; rfl]
    exact ⟨_, rfl, rfl, trivial⟩
   ·have hi : i = l.length := by
      simp only [Bool.and_eq_false_iff, decide_eq_false_iff_not] at h
      omega
    rw [decide_eq_false (by omega : ¬ (60 : Int) < (l.length : Int))]
    refine ggO (k := ?_)
    conv => whnf
    refine gcl (hA := fun hG => ⟨trivial, hG, trivial⟩) (k := ?_)
    have hlb : longB l = vastO ((l.take i).map opOf) := by
     unfold longB
     rw [decide_eq_false h60, Bool.false_or, hi, List.take_length, List.take_of_length_le (by omega)]
    refine cmks (vast21_own ((l.take i).map opOf) i (by rw [List.length_map, List.length_take]; omega) (i + 1)) Tryz.call46 (hrows := ⟨⟨fun _ => opA_on _, rfl⟩, trivial⟩) (hr2 := ⟨fun _ => opA_on _, trivial⟩) 1 [22] [0] [] ?_
    rw [← hlb]
    refine ggO (k := ?_)
    exact ⟨_, rfl, rfl, trivial⟩
end Go.Proofs.YtpbpiehcchannaaGreatDoor
