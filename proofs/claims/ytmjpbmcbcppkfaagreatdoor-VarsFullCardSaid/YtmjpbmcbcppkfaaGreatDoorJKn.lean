/- A book beside a map, and puts one behind the other: walks and plain law. A book whose store is a map: what several laws want of it. Conditions: the premises of each law. -/
import Derived.Test.YtmjpbmcbcppkfaaGreatDoorJKm2
import Derived.Test.YtmjpbmcbcppkfaaGreatDoorJKk
import Derived.Test.YtmjpbmcbcppkfaaGreatDoorJHp
namespace Go.Proofs.YtmjpbmcbcppkfaaGreatDoor
open Go.RowKit
set_option linter.unusedVariables false
set_option linter.unusedSimpArgs false
set_option maxRecDepth 100000
set_option maxHeartbeats 1500000
structure VOk (v : VarV) : Prop where
 ok : v.Ok
 r : rightN v.nm = true
 t : v.t.good
 d : v.d.length ≤ 65484
def rcdV (v : VarV) : RK := ⟨keyV v.nm v.g, laidV v, true⟩
def RecB (r : RK) : Prop := (∃ v : VarV, VOk v ∧ r = rcdV v) ∨ ∃ x : UInt8, r = ⟨markK, [x], true⟩
theorem putOk_VOk {v : VarV} (hv : v.Ok) (h : putOk v = true) : VOk v := by
 unfold putOk at h
 simp only [Bool.and_eq_true, Bool.or_eq_true, decide_eq_true_eq] at h
 refine ⟨hv, h.1.1, ⟨hv.t, ?_⟩, h.2⟩
 rcases h.1.2 with h1 | h1
 ·exact .inr h1
 ·left
  unfold Tm.nil at h1
  simp only [Bool.and_eq_true, decide_eq_true_eq] at h1
  obtain ⟨nm, g, a, ⟨y, m, d, h, mi, s⟩, o, d'⟩ := v
  simp only at h1
  obtain ⟨⟨⟨⟨⟨rfl, rfl⟩, rfl⟩, rfl⟩, rfl⟩, rfl⟩ := h1
  rfl
theorem VOk.put {v : VarV} (h : VOk v) : putOk v = true := by
 unfold putOk
 rw [h.r, decide_eq_true h.d, Bool.true_and, Bool.and_true, Bool.or_eq_true]
 rcases h.t.2 with h1 | h1
 ·right; rw [h1]; rfl
 ·exact .inl h1
def kputP (s : FlS) (v : VarV) : Int × FlS := if putOk v = true then s.set 1 (keyV v.nm v.g) (laidV v) else (1, s)
theorem kput_vc {W : Int} {n k : Nat} (s : FlS) (go : Goes W n k s) (hW : W ≤ 1000000000000000) (pa : Lies n k 0 1) (pb : Lies n k 1 1) (hd : s.dd = false) (v : VarV) (hv : v.Ok) (z vk vs va vb v0 v1 : Nat) : Spec Tryz.prog 61 [.ref 0 vk 1 0 0, .agg (varA (.bs z v.d) v)] [⟨vk, .obj [.ref 1 vs 3 0 0]⟩, ⟨vs, .obj [.ref 4 v0 6 0 0, .ref 2 va 3 0 0, .ref 3 vb 3 0 0]⟩, ⟨va, .obj [.ref 4 v0 6 0 0, .val (.int .i64 ((0 : Nat) : Int)), .val (.int .i64 (1 : Int))]⟩, ⟨vb, .obj [.ref 4 v0 6 0 0, .val (.int .i64 (1 : Int)), .val (.int .i64 (1 : Int))]⟩, ⟨v0, .obj [.own 5 v1 1 0 s.l.length, .val (.int .i64 (s.k : Int)), .val (.int .i64 s.ar), .val (.int .i64 s.pt), .val (.bool s.dd), .val (.int .i64 s.wr)]⟩, ⟨v1, .bytes s.l⟩]
   (pms (.val (.int .i64 (kputP s v).1)) [⟨vk, .obj [.ref 1 vs 3 0 0]⟩, ⟨vs, .obj [.ref 4 v0 6 0 0, .ref 2 va 3 0 0, .ref 3 vb 3 0 0]⟩, ⟨va, .obj [.ref 4 v0 6 0 0, .val (.int .i64 ((0 : Nat) : Int)), .val (.int .i64 (1 : Int))]⟩, ⟨vb, .obj [.ref 4 v0 6 0 0, .val (.int .i64 (1 : Int)), .val (.int .i64 (1 : Int))]⟩, ⟨v0, .obj [.own 5 v1 1 0 (kputP s v).2.l.length, .val (.int .i64 ((kputP s v).2.k : Int)), .val (.int .i64 (kputP s v).2.ar), .val (.int .i64 (kputP s v).2.pt), .val (.bool (kputP s v).2.dd), .val (.int .i64 (kputP s v).2.wr)]⟩, ⟨v1, .bytes (kputP s v).2.l⟩] []) := by
 cases h : putOk v with
 | true =>
  have h2 := putOk_VOk hv h
  rw [show kputP s v = s.set 1 (keyV v.nm v.g) (laidV v) from if_pos h]
  exact put_kv s 1 go hW pa pb hd v hv h2.r h2.t h2.d z vk vs va vb v0 v1
 | false =>
  rw [show kputP s v = (1, s) from if_neg (by rw [h]; simp)]
  exact kput_bad s 1 v hv h z vk vs va vb v0 v1
structure NB (s : FlS) (y i : Nat) (M : List RK) : Prop where
 ex : ∃ G : Int, G ≤ i + 1 ∧ NM s 1 y G M
 go : Goes (14 + i * 300000000000) (2 * y) y s
 rc : ∀ r ∈ M, RecB r
 len : M.length ≤ i
theorem NB.live {s : FlS} {y i : Nat} {M : List RK} (h : NB s y i M) : s.dd = false := by
 obtain ⟨G, _, h1⟩ := h.ex
 exact h1.live
theorem NB.lk {s : FlS} {y i : Nat} {M : List RK} (h : NB s y i M) : LK s 1 M := by
 obtain ⟨G, _, h1⟩ := h.ex
 exact h1.lk
theorem lie0 {y : Nat} (hy : 128 ≤ y ∧ y ≤ 20000) : Lies (2 * y) y 0 1 := ⟨by omega, by omega, by omega, by omega⟩
theorem lie1 {y : Nat} (hy : 128 ≤ y ∧ y ≤ 20000) : Lies (2 * y) y 1 1 := ⟨by omega, by omega, by omega, by omega⟩
theorem setM_len (M : List RK) (key val : List UInt8) : (setM M key val).length ≤ M.length + 1 := by
 unfold setM
 rw [List.length_append]
 have := List.length_filter_le (fun r : RK => r.key != key) M
 simp only [List.length_cons, List.length_nil]
 omega
theorem NB.up {s : FlS} {y i : Nat} {M : List RK} (h : NB s y i M) : NB s y (i + 1) M := by
 obtain ⟨G, h1, h2⟩ := h.ex
 refine ⟨⟨G, by push_cast; omega, h2⟩, h.go.mono (by push_cast; omega), h.rc, ?_⟩
 have := h.len
 omega
theorem NB.set {s : FlS} {y i : Nat} {M : List RK} (h : NB s y i M) (hy : 128 ≤ y ∧ y ≤ 20000) (hi : i ≤ 1000) {key val : List UInt8} (hk : 1 ≤ key.length ∧ key.length ≤ 255) (hv : val.length ≤ 65536) (hr : RecB ⟨key, val, true⟩) :
    (s.set 1 key val = (5, s) ∧ NB s y (i + 1) M) ∨ (∃ s', s.set 1 key val = (0, s') ∧ NB s' y (i + 1) (setM M key val)) := by
 obtain ⟨G, h1, h2⟩ := h.ex
 have hgo := h.go.set (lie0 hy) (lie1 hy) key val
 obtain ⟨a, b⟩ := h2.set (by omega) (by omega) hk hv
 by_cases hf : 1 * y - 16 < usedK M + (12 + key.length + val.length)
 ·exact .inl ⟨a hf, h.up⟩
 ·obtain ⟨s', e, n⟩ := b (by omega)
  right
  rw [e] at hgo
  refine ⟨s', e, ⟨G + 1, by push_cast; omega, n⟩, hgo.mono (by push_cast; omega), ?_, ?_⟩
  ·intro r hr'
   unfold setM at hr'
   rcases List.mem_append.1 hr' with q | q
   ·exact h.rc r (List.mem_filter.1 q).1
   ·rw [List.mem_singleton] at q; subst q; exact hr
  ·have := setM_len M key val
   have := h.len
   omega
theorem keyV_len {v : VarV} (h : VOk v) : 1 ≤ (keyV v.nm v.g).length ∧ (keyV v.nm v.g).length ≤ 255 := by
 have := h.r
 unfold rightN at this
 simp only [Bool.and_eq_true, decide_eq_true_eq] at this
 unfold keyV
 rw [List.length_append, h.ok.g]
 simp only [Array.length_toList, ByteArray.size_data]
 omega
theorem NB.put {s : FlS} {y i : Nat} {M : List RK} (h : NB s y i M) (hy : 128 ≤ y ∧ y ≤ 20000) (hi : i ≤ 1000) (v : VarV) (hv : v.Ok) :
    (NB (kputP s v).2 y (i + 1) M ∧ (kputP s v).1 ≠ 0) ∨ (VOk v ∧ NB (kputP s v).2 y (i + 1) (setM M (keyV v.nm v.g) (laidV v)) ∧ (kputP s v).1 = 0) := by
 cases hP : putOk v with
 | false =>
  rw [show kputP s v = (1, s) from if_neg (by rw [hP]; simp)]
  exact .inl ⟨h.up, (by decide : (1 : Int) ≠ 0)⟩
 | true =>
  have h2 := putOk_VOk hv hP
  rw [show kputP s v = s.set 1 (keyV v.nm v.g) (laidV v) from if_pos hP]
  rcases h.set hy hi (keyV_len h2) (val := laidV v) (by rw [laid_len hv]; have := h2.d; omega) (.inl ⟨v, h2, rfl⟩) with ⟨e, n⟩ | ⟨s', e, n⟩
  ·rw [e]; exact .inl ⟨n, (by decide : (5 : Int) ≠ 0)⟩
  ·rw [e]; exact .inr ⟨h2, n, rfl⟩
end Go.Proofs.YtmjpbmcbcppkfaaGreatDoor
namespace Go.Proofs.YtmjpbmcbcppkfaaGreatDoor
open Go.RowKit
set_option linter.unusedVariables false
set_option linter.unusedSimpArgs false
set_option maxRecDepth 100000
set_option maxHeartbeats 1500000
def kV (v : VarV) : List UInt8 := keyV v.nm v.g
theorem keyV_inj {a b : ByteArray} {g h : List UInt8} (hg : g.length = 16) (hh : h.length = 16) (e : keyV a g = keyV b h) : a = b ∧ g = h := by
 unfold keyV at e
 have e1 : g = h := by
  have := congrArg (List.take 16) e
  rwa [List.take_left' hg, List.take_left' hh] at this
 have e2 : a.data.toList = b.data.toList := by
  have := congrArg (List.drop 16) e
  rwa [List.drop_left' hg, List.drop_left' hh] at this
 exact ⟨by rw [← strOf_toList a, e2, strOf_toList], e1⟩
theorem Goes.delK {B : Int} {n k : Nat} {s : FlS} (g : Goes B n k s) (c : Nat) (key : List UInt8) : Goes (B + 1) n k (s.del c key).2 := by
 unfold FlS.del
 split
 ·exact g.mono (by omega)
 ·split
  ·exact g.mono (by omega)
  ·exact g.kill _ _ _
theorem NB.del {s : FlS} {y i : Nat} {M : List RK} (h : NB s y i M) (key : List UInt8) :
    (s.del 1 key = (3, s) ∧ NB s y (i + 1) M) ∨ (∃ s', s.del 1 key = (0, s') ∧ NB s' y (i + 1) (M.filter fun r => r.key != key)) := by
 obtain ⟨G, h1, h2⟩ := h.ex
 have hgo := h.go.delK 1 key
 obtain ⟨a, b⟩ := h2.del key
 by_cases hf : ∃ r ∈ M, r.key = key
 ·obtain ⟨s', e, n⟩ := b hf
  rw [e] at hgo
  refine .inr ⟨s', e, ⟨G, by push_cast; omega, n⟩, hgo.mono (by push_cast; omega), fun r hr => h.rc r (List.mem_filter.1 hr).1, ?_⟩
  have := List.length_filter_le (fun r : RK => r.key != key) M
  have := h.len
  omega
 ·exact .inl ⟨a fun r hr e => hf ⟨r, hr, e⟩, h.up⟩
theorem rcd_mark {M : List RK} (h : ∀ r ∈ M, ∃ v, VOk v ∧ r = rcdV v) : ∀ r ∈ M, r.key ≠ markK := by
 intro r hr e
 obtain ⟨v, hv, rfl⟩ := h r hr
 have hl := congrArg List.length e
 have : (keyV v.nm v.g).length = 4 := hl
 unfold keyV at this
 rw [List.length_append, hv.ok.g] at this
 omega
theorem new_NB {y : Nat} (hy : 128 ≤ y ∧ y ≤ 20000) : ∃ s1, (FlS.new 2 y).opn 1 = (0, s1) ∧ NB s1 y 0 [] := by
 obtain ⟨s1, b1, o1, m1⟩ := NM.new (c := 1) (k := y) (by omega) (by omega)
 have b1' : (FlS.new 2 y).bgn 0 1 1 [] = (0, s1) := b1
 have g0 : Goes 0 (2 * y) y (FlS.new 2 y) := Goes.new 2 y (by decide) (by omega)
 have g1 : Goes 14 (2 * y) y s1 := by have := g0.bgn0 1 1; rw [b1'] at this; exact this
 exact ⟨s1, o1, ⟨1, by decide, m1⟩, g1, by simp, Nat.le_refl _⟩
theorem varA_AFL {mk : List (Nat × Ent)} {x y : AV} (h : AF mk x y) (v : VarV) : AFL mk (varA x v) (varA y v) := by
 unfold varA
 repeat (first | exact AFL.nil | refine AFL.cons AF.same ?_)
 exact AFL.cons h AFL.nil
theorem kget_z {W : Int} {n k : Nat} (s : FlS) (c : Nat) {M : List RK} (m : LK s c M) (go : Goes W n k s) (pa : Lies n k 0 c) (pb : Lies n k c c) (v : VarV) (hv : VOk v) (hm : rcdV v ∈ M) (vk vs va vb v0 v1 : Nat) : Spec Tryz.prog 24 [.ref 0 vk 1 0 0, .val (.string v.nm), .agg (bytesA 16 v.g)] [⟨vk, .obj [.ref 1 vs 3 0 0]⟩, ⟨vs, .obj [.ref 4 v0 6 0 0, .ref 2 va 3 0 0, .ref 3 vb 3 0 0]⟩, ⟨va, .obj [.ref 4 v0 6 0 0, .val (.int .i64 ((0 : Nat) : Int)), .val (.int .i64 (c : Int))]⟩, ⟨vb, .obj [.ref 4 v0 6 0 0, .val (.int .i64 (c : Int)), .val (.int .i64 (c : Int))]⟩, ⟨v0, .obj [.own 5 v1 1 0 s.l.length, .val (.int .i64 (s.k : Int)), .val (.int .i64 s.ar), .val (.int .i64 s.pt), .val (.bool s.dd), .val (.int .i64 s.wr)]⟩, ⟨v1, .bytes s.l⟩]
   (pms (.tup [.agg (varA (.bs 0 v.d) v), .val (.bool true), .val (.int .i64 0)]) [⟨vk, .obj [.ref 1 vs 3 0 0]⟩, ⟨vs, .obj [.ref 4 v0 6 0 0, .ref 2 va 3 0 0, .ref 3 vb 3 0 0]⟩, ⟨va, .obj [.ref 4 v0 6 0 0, .val (.int .i64 ((0 : Nat) : Int)), .val (.int .i64 (c : Int))]⟩, ⟨vb, .obj [.ref 4 v0 6 0 0, .val (.int .i64 (c : Int)), .val (.int .i64 (c : Int))]⟩, ⟨v0, .obj [.own 5 v1 1 0 s.l.length, .val (.int .i64 (s.k : Int)), .val (.int .i64 s.ar), .val (.int .i64 s.pt), .val (.bool s.dd), .val (.int .i64 s.wr)]⟩, ⟨v1, .bytes s.l⟩] []) :=
 spec_frz (kget_in s c m go pa pb v hv.ok hv.r hv.t (by have := hv.d; omega) hm vk vs va vb v0 v1) (by simp [geM]) (AF.tup (AFL.cons (AF.agg (varA_AFL (AF.own rfl rfl) v)) (AFL.cons AF.same (AFL.cons AF.same AFL.nil)))) ⟨rfl, BF.same, rfl, BF.same, rfl, BF.same, rfl, BF.same, rfl, BF.same, rfl, BF.same, trivial⟩
end Go.Proofs.YtmjpbmcbcppkfaaGreatDoor
