/- Walks of vars: Set of variables that nobody signs, whole; lintellaw23: works. Walk of lintellaw23: works. Conditions: the premises of each law. -/
import Derived.Test.YtmjpbmcbcppkfaaGreatDoorJVa2
namespace Go.Proofs.YtmjpbmcbcppkfaaGreatDoor
open Go.RowKit
set_option linter.unusedVariables false
set_option linter.unusedSimpArgs false
set_option maxRecDepth 100000
set_option maxHeartbeats 3000000
section
variable {s : FlS} {y i : Nat} {M : List RK} {nm : ByteArray} {g : List UInt8} {a a' : Int} {q : Bool} {z : Nat} {d : List UInt8}
theorem bytesA16 (g : List UInt8) : bytesA 16 g = [.val (bv (g.getD 0 0)), .val (bv (g.getD 1 0)), .val (bv (g.getD 2 0)), .val (bv (g.getD 3 0)), .val (bv (g.getD 4 0)), .val (bv (g.getD 5 0)), .val (bv (g.getD 6 0)), .val (bv (g.getD 7 0)), .val (bv (g.getD 8 0)), .val (bv (g.getD 9 0)), .val (bv (g.getD 10 0)), .val (bv (g.getD 11 0)), .val (bv (g.getD 12 0)), .val (bv (g.getD 13 0)), .val (bv (g.getD 14 0)), .val (bv (g.getD 15 0))] := rfl
def vsetP (s : FlS) (nm : ByteArray) (g : List UInt8) (a' : Int) (q : Bool) (w : Option (List UInt8)) (d : List UInt8) : Int × FlS :=
 if q = true then (if d = [] then (0, s) else kputP s (plV nm g a' (w.getD [] ++ d))) else kputP s (plV nm g a' d)
theorem vset_new (h : PB s y i M) (hi : i ≤ 1000) (hA : AtO a a' q) (hr : rightN nm = true) (hg : g.length = 16) (hk : kindF nm.data.toList g = 0) (hd : q = true ∨ 0 < d.length) (hl : d.length ≤ 65484) (hm : ∀ r ∈ M, r.key ≠ keyV nm g) (vv vk vs va vb v0 v1 : Nat) : Spec Tryz.prog 8 [.ref 0 vv 1 0 0, .val (.string nm), .agg (bytesA 16 g), .val (.int .u32 a), .bs z d] [⟨vv, .obj [.ref 1 vk 1 0 0]⟩, ⟨vk, .obj [.ref 2 vs 3 0 0]⟩, ⟨vs, .obj [.ref 5 v0 6 0 0, .ref 3 va 3 0 0, .ref 4 vb 3 0 0]⟩, ⟨va, .obj [.ref 5 v0 6 0 0, .val (.int .i64 ((0 : Nat) : Int)), .val (.int .i64 ((1 : Nat) : Int))]⟩, ⟨vb, .obj [.ref 5 v0 6 0 0, .val (.int .i64 ((1 : Nat) : Int)), .val (.int .i64 ((1 : Nat) : Int))]⟩, ⟨v0, .obj [.own 6 v1 1 0 s.l.length, .val (.int .i64 (s.k : Int)), .val (.int .i64 s.ar), .val (.int .i64 s.pt), .val (.bool s.dd), .val (.int .i64 s.wr)]⟩, ⟨v1, .bytes s.l⟩]
   (pms (.val (.int .i64 (vsetP s nm g a' q none d).1)) [⟨vv, .obj [.ref 1 vk 1 0 0]⟩, ⟨vk, .obj [.ref 2 vs 3 0 0]⟩, ⟨vs, .obj [.ref 5 v0 6 0 0, .ref 3 va 3 0 0, .ref 4 vb 3 0 0]⟩, ⟨va, .obj [.ref 5 v0 6 0 0, .val (.int .i64 ((0 : Nat) : Int)), .val (.int .i64 ((1 : Nat) : Int))]⟩, ⟨vb, .obj [.ref 5 v0 6 0 0, .val (.int .i64 ((1 : Nat) : Int)), .val (.int .i64 ((1 : Nat) : Int))]⟩, ⟨v0, .obj [.own 6 v1 1 0 (vsetP s nm g a' q none d).2.l.length, .val (.int .i64 ((vsetP s nm g a' q none d).2.k : Int)), .val (.int .i64 (vsetP s nm g a' q none d).2.ar), .val (.int .i64 (vsetP s nm g a' q none d).2.pt), .val (.bool (vsetP s nm g a' q none d).2.dd), .val (.int .i64 (vsetP s nm g a' q none d).2.wr)]⟩, ⟨v1, .bytes (vsetP s nm g a' q none d).2.l⟩] []) := by
 have hsz : nm.size ≤ 64 := by have := hr; unfold rightN at this; simp only [Bool.and_eq_true, decide_eq_true_eq] at this; omega
 have hK := kind_vc nm (by omega) g hg
 have hR := right_vc nm (by omega)
 rw [hk] at hK
 rw [hr] at hR
 have hF := fits0_vc a (by rcases hA with ⟨rfl, _⟩ | ⟨rfl, _⟩ | ⟨rfl, _⟩ <;> simp)
 have hM := vmode_vc h vv vk vs va vb v0 v1
 have hG := kget_no s 1 h.lk h.go (lie0 h.hy) (lie1 h.hy) nm g hg hr hm vk vs va vb v0 v1
 have hN := answers_vc (nm := nm) (g := g) (z := z) (d := d) (w := none) (v := varZ) (is := false) hA (fun q => by cases q) s vv vk vs va vb v0 v1 1
 have ha : 0 ≤ a' ∧ a' ≤ 4294967295 := by rcases hA with ⟨_, rfl, _⟩ | ⟨_, rfl, _⟩ | ⟨_, rfl, _⟩ <;> decide
 have hP : Spec Tryz.prog 43 [.ref 0 vv 1 0 0, .ref 7 1 79 0 0] [⟨vv, .obj [.ref 1 vk 1 0 0]⟩, ⟨vk, .obj [.ref 2 vs 3 0 0]⟩, ⟨vs, .obj [.ref 5 v0 6 0 0, .ref 3 va 3 0 0, .ref 4 vb 3 0 0]⟩, ⟨va, .obj [.ref 5 v0 6 0 0, .val (.int .i64 ((0 : Nat) : Int)), .val (.int .i64 ((1 : Nat) : Int))]⟩, ⟨vb, .obj [.ref 5 v0 6 0 0, .val (.int .i64 ((1 : Nat) : Int)), .val (.int .i64 ((1 : Nat) : Int))]⟩, ⟨v0, .obj [.own 6 v1 1 0 s.l.length, .val (.int .i64 (s.k : Int)), .val (.int .i64 s.ar), .val (.int .i64 s.pt), .val (.bool s.dd), .val (.int .i64 s.wr)]⟩, ⟨v1, .bytes s.l⟩, ⟨1, .obj (cllA nm g 0 a (.bs z d) (wasX none) varZ false 0)⟩] (pms (.val (.int .i64 (vsetP s nm g a' q none d).1)) [⟨vv, .obj [.ref 1 vk 1 0 0]⟩, ⟨vk, .obj [.ref 2 vs 3 0 0]⟩, ⟨vs, .obj [.ref 5 v0 6 0 0, .ref 3 va 3 0 0, .ref 4 vb 3 0 0]⟩, ⟨va, .obj [.ref 5 v0 6 0 0, .val (.int .i64 ((0 : Nat) : Int)), .val (.int .i64 ((1 : Nat) : Int))]⟩, ⟨vb, .obj [.ref 5 v0 6 0 0, .val (.int .i64 ((1 : Nat) : Int)), .val (.int .i64 ((1 : Nat) : Int))]⟩, ⟨v0, .obj [.own 6 v1 1 0 (vsetP s nm g a' q none d).2.l.length, .val (.int .i64 ((vsetP s nm g a' q none d).2.k : Int)), .val (.int .i64 (vsetP s nm g a' q none d).2.ar), .val (.int .i64 (vsetP s nm g a' q none d).2.pt), .val (.bool (vsetP s nm g a' q none d).2.dd), .val (.int .i64 (vsetP s nm g a' q none d).2.wr)]⟩, ⟨v1, .bytes (vsetP s nm g a' q none d).2.l⟩, ⟨1, .obj (cllA nm g 0 a (.bs z d) (wasX none) varZ false 0)⟩] []) := by
  unfold vsetP
  cases q with
  | false =>
   simp only [Bool.false_eq_true, if_false]
   exact vplain_put h hi hA (by rcases hd with q | q; cases q; exact q) (plV_PV hr hg ha hl hk).ok.ok vv vk vs va vb v0 v1 1
  | true =>
   simp only [if_true]
   by_cases h0 : d = []
   ·rw [if_pos h0]
    exact vplain_none hA h0 vv vk vs va vb v0 v1 1
   ·rw [if_neg h0]
    have := List.length_pos_iff.2 h0
    exact vplain_more h hi hA this (by simp only [Option.getD_none, List.length_nil]; omega) (by rw [Option.getD_none, List.nil_append]; exact (plV_PV hr hg ha hl hk).ok.ok) vv vk vs va vb v0 v1 1
 generalize vsetP s nm g a' q none d = R at hP
 clear h hm hd hA hi hk
 unfold cllA varA wasX at hN hP
 rw [bytesA16]
 refine spec_entry tbOk Tryz.func8 rfl Tryz.ntmps8 Tryz.results8 ?_
 refine gg (k := ?_)
 refine draw_of (p := 7) tbOk hm [0, 0, 0, 0, 12, 0, 0, 127, 255, 511] [⟨0, false, false, []⟩, ⟨1, true, false, [15, 17, 18, 19, 20, 21, 22, 23, 11]⟩, ⟨2, false, false, []⟩, ⟨3, true, false, [15, 16, 17, 19, 20, 21, 22, 23, 11]⟩, ⟨5, false, false, []⟩, ⟨6, false, false, []⟩, ⟨4, true, false, [15, 16, 20, 21, 22, 23, 11]⟩, ⟨7, true, false, [23, 11]⟩, ⟨8, true, false, [11]⟩, ⟨9, false, false, []⟩] (by kernel_rfl) ?_
 refine gg (k := ?_)
 refine cmks (hK) Tryz.call21 0 [] [] [] ?_
 refine gg (k := ?_)
 simp only [takeL, dropL, List.map_cons, List.map_nil, List.cons_append, List.nil_append, List.append_nil, List.length_cons, List.length_nil, Nat.reduceAdd]
 refine cdet (hR) Tryz.call22 [] ?_
 refine ggO (k := ?_)
 conv => whnf
 refine gcl (hA := fun hG => ⟨trivial, hG, hG, trivial⟩) (k := ?_)
 refine cmks (hF) Tryz.call23 0 [] [] [] ?_
 refine gg (k := ?_)
 rw [decide_eq_false (by omega : ¬ (65536 : Int) < (d.length : Int))]
 refine gg (k := ?_)
 refine cmks (hM) Tryz.call15 7 [0, 1, 2, 3, 4, 5, 6] [0, 0, 0, 0, 0, 0, 0] [] ?_
 refine gg (k := ?_)
 refine draw_of (p := 7) tbOk hm [0, 0, 0, 4, 12, 28, 0, 0, 252, 508, 1020, 1020, 1020, 2045, 10237, 26621, 61439, 126975, 258047, 524287] [⟨0, false, false, []⟩, ⟨1, false, false, []⟩, ⟨2, false, false, []⟩, ⟨3, true, false, [53, 54, 57, 58, 59, 60, 61, 52, 62, 63, 64, 65, 66, 67, 68, 12]⟩, ⟨4, true, false, [53, 54, 58, 59, 60, 61, 52, 62, 63, 64, 65, 66, 67, 68, 12]⟩, ⟨5, true, false, [53, 54, 59, 60, 61, 52, 62, 63, 64, 65, 66, 67, 68, 12]⟩, ⟨6, false, false, []⟩, ⟨7, true, false, [53, 54, 55, 56, 57, 58, 59, 61, 52, 62, 63, 64, 65, 66, 67, 68, 12]⟩, ⟨8, true, false, [53, 54, 52, 62, 63, 64, 65, 66, 67, 68, 12]⟩, ⟨9, false, false, []⟩, ⟨10, false, false, []⟩, ⟨11, false, false, []⟩, ⟨12, false, false, []⟩, ⟨13, true, false, [54, 63, 64, 66, 67, 68, 12]⟩, ⟨14, true, false, [54, 63, 64, 67, 68, 12]⟩, ⟨15, true, true, [54, 63, 64, 67, 68, 12]⟩, ⟨16, true, false, [64, 68, 12]⟩, ⟨17, true, false, [64, 12]⟩, ⟨18, true, true, [64, 12]⟩, ⟨19, false, false, []⟩] (by kernel_rfl) ?_
 refine gg (k := ?_)
 refine cmks (hG) Tryz.call24 6 [1, 2, 3, 4, 5, 6] [0, 0, 0, 0, 0, 0] [] ?_
 ((conv => whnf); refine And.intro ⟨.inr rfl, .inr rfl, .inr rfl, .inr rfl, .inr rfl, .inr rfl, trivial⟩ ?_)
 unfold varA
 refine gg (k := ?_)
 simp only [takeL, dropL, List.map_cons, List.map_nil, List.cons_append, List.nil_append, List.append_nil, List.length_cons, List.length_nil, Nat.reduceAdd]
 refine cmks (hN) Tryz.call25 8 [0, 1, 2, 3, 4, 5, 6, 30] [0, 0, 0, 0, 0, 0, 0, 0] [] ?_
 refine gg (k := ?_)
 refine cmks (hP) Tryz.call43 8 [0, 1, 2, 3, 4, 5, 6, 30] [0, 0, 0, 0, 0, 0, 0, 0] [] ?_
 refine gg (k := ?_)
 exact ⟨_, rfl, rfl, trivial⟩
theorem vset_there (h : PB s y i M) (hi : i ≤ 1000) (hA : AtO a a' q) (hr : rightN nm = true) (hg : g.length = 16) (hk : kindF nm.data.toList g = 0) (hd : q = true ∨ 0 < d.length) (u : VarV) (hl : u.d.length + d.length ≤ 65484) (hu : PV u) (hm : rcdV u ∈ M) (hun : u.nm = nm) (hug : u.g = g) (hua : u.at_ = a') (vv vk vs va vb v0 v1 : Nat) : Spec Tryz.prog 8 [.ref 0 vv 1 0 0, .val (.string nm), .agg (bytesA 16 g), .val (.int .u32 a), .bs z d] [⟨vv, .obj [.ref 1 vk 1 0 0]⟩, ⟨vk, .obj [.ref 2 vs 3 0 0]⟩, ⟨vs, .obj [.ref 5 v0 6 0 0, .ref 3 va 3 0 0, .ref 4 vb 3 0 0]⟩, ⟨va, .obj [.ref 5 v0 6 0 0, .val (.int .i64 ((0 : Nat) : Int)), .val (.int .i64 ((1 : Nat) : Int))]⟩, ⟨vb, .obj [.ref 5 v0 6 0 0, .val (.int .i64 ((1 : Nat) : Int)), .val (.int .i64 ((1 : Nat) : Int))]⟩, ⟨v0, .obj [.own 6 v1 1 0 s.l.length, .val (.int .i64 (s.k : Int)), .val (.int .i64 s.ar), .val (.int .i64 s.pt), .val (.bool s.dd), .val (.int .i64 s.wr)]⟩, ⟨v1, .bytes s.l⟩]
   (pms (.val (.int .i64 (vsetP s nm g a' q (some u.d) d).1)) [⟨vv, .obj [.ref 1 vk 1 0 0]⟩, ⟨vk, .obj [.ref 2 vs 3 0 0]⟩, ⟨vs, .obj [.ref 5 v0 6 0 0, .ref 3 va 3 0 0, .ref 4 vb 3 0 0]⟩, ⟨va, .obj [.ref 5 v0 6 0 0, .val (.int .i64 ((0 : Nat) : Int)), .val (.int .i64 ((1 : Nat) : Int))]⟩, ⟨vb, .obj [.ref 5 v0 6 0 0, .val (.int .i64 ((1 : Nat) : Int)), .val (.int .i64 ((1 : Nat) : Int))]⟩, ⟨v0, .obj [.own 6 v1 1 0 (vsetP s nm g a' q (some u.d) d).2.l.length, .val (.int .i64 ((vsetP s nm g a' q (some u.d) d).2.k : Int)), .val (.int .i64 (vsetP s nm g a' q (some u.d) d).2.ar), .val (.int .i64 (vsetP s nm g a' q (some u.d) d).2.pt), .val (.bool (vsetP s nm g a' q (some u.d) d).2.dd), .val (.int .i64 (vsetP s nm g a' q (some u.d) d).2.wr)]⟩, ⟨v1, .bytes (vsetP s nm g a' q (some u.d) d).2.l⟩] []) := by
 have hsz : nm.size ≤ 64 := by have := hr; unfold rightN at this; simp only [Bool.and_eq_true, decide_eq_true_eq] at this; omega
 have hK := kind_vc nm (by omega) g hg
 have hR := right_vc nm (by omega)
 rw [hk] at hK
 rw [hr] at hR
 have hF := fits0_vc a (by rcases hA with ⟨rfl, _⟩ | ⟨rfl, _⟩ | ⟨rfl, _⟩ <;> simp)
 have hM := vmode_vc h vv vk vs va vb v0 v1
 have hG := kget_z s 1 h.lk h.go (lie0 h.hy) (lie1 h.hy) u hu.ok hm vk vs va vb v0 v1
 rw [hun, hug] at hG
 have hN := answers_vc (nm := nm) (g := g) (z := z) (d := d) (w := some u.d) (v := u) (is := true) hA (fun _ => hua) s vv vk vs va vb v0 v1 1
 have ha : 0 ≤ a' ∧ a' ≤ 4294967295 := by rcases hA with ⟨_, rfl, _⟩ | ⟨_, rfl, _⟩ | ⟨_, rfl, _⟩ <;> decide
 have hP : Spec Tryz.prog 43 [.ref 0 vv 1 0 0, .ref 7 1 79 0 0] [⟨vv, .obj [.ref 1 vk 1 0 0]⟩, ⟨vk, .obj [.ref 2 vs 3 0 0]⟩, ⟨vs, .obj [.ref 5 v0 6 0 0, .ref 3 va 3 0 0, .ref 4 vb 3 0 0]⟩, ⟨va, .obj [.ref 5 v0 6 0 0, .val (.int .i64 ((0 : Nat) : Int)), .val (.int .i64 ((1 : Nat) : Int))]⟩, ⟨vb, .obj [.ref 5 v0 6 0 0, .val (.int .i64 ((1 : Nat) : Int)), .val (.int .i64 ((1 : Nat) : Int))]⟩, ⟨v0, .obj [.own 6 v1 1 0 s.l.length, .val (.int .i64 (s.k : Int)), .val (.int .i64 s.ar), .val (.int .i64 s.pt), .val (.bool s.dd), .val (.int .i64 s.wr)]⟩, ⟨v1, .bytes s.l⟩, ⟨1, .obj (cllA nm g 0 a (.bs z d) (wasX (some u.d)) u true 0)⟩] (pms (.val (.int .i64 (vsetP s nm g a' q (some u.d) d).1)) [⟨vv, .obj [.ref 1 vk 1 0 0]⟩, ⟨vk, .obj [.ref 2 vs 3 0 0]⟩, ⟨vs, .obj [.ref 5 v0 6 0 0, .ref 3 va 3 0 0, .ref 4 vb 3 0 0]⟩, ⟨va, .obj [.ref 5 v0 6 0 0, .val (.int .i64 ((0 : Nat) : Int)), .val (.int .i64 ((1 : Nat) : Int))]⟩, ⟨vb, .obj [.ref 5 v0 6 0 0, .val (.int .i64 ((1 : Nat) : Int)), .val (.int .i64 ((1 : Nat) : Int))]⟩, ⟨v0, .obj [.own 6 v1 1 0 (vsetP s nm g a' q (some u.d) d).2.l.length, .val (.int .i64 ((vsetP s nm g a' q (some u.d) d).2.k : Int)), .val (.int .i64 (vsetP s nm g a' q (some u.d) d).2.ar), .val (.int .i64 (vsetP s nm g a' q (some u.d) d).2.pt), .val (.bool (vsetP s nm g a' q (some u.d) d).2.dd), .val (.int .i64 (vsetP s nm g a' q (some u.d) d).2.wr)]⟩, ⟨v1, .bytes (vsetP s nm g a' q (some u.d) d).2.l⟩, ⟨1, .obj (cllA nm g 0 a (.bs z d) (wasX (some u.d)) u true 0)⟩] []) := by
  unfold vsetP
  cases q with
  | false =>
   simp only [Bool.false_eq_true, if_false]
   exact vplain_put h hi hA (by rcases hd with q | q; cases q; exact q) (plV_PV hr hg ha (by omega) hk).ok.ok vv vk vs va vb v0 v1 1
  | true =>
   simp only [if_true]
   by_cases h0 : d = []
   ·rw [if_pos h0]
    exact vplain_none hA h0 vv vk vs va vb v0 v1 1
   ·rw [if_neg h0]
    have := List.length_pos_iff.2 h0
    exact vplain_more h hi hA this (by rw [Option.getD_some]; exact hl) (plV_PV hr hg ha (by rw [Option.getD_some, List.length_append]; exact hl) hk).ok.ok vv vk vs va vb v0 v1 1
 generalize vsetP s nm g a' q (some u.d) d = R at hP
 clear h hm hd hA hi hk hun hug hua hu
 unfold cllA varA wasX at hN hP
 rw [bytesA16]
 refine spec_entry tbOk Tryz.func8 rfl Tryz.ntmps8 Tryz.results8 ?_
 refine gg (k := ?_)
 refine draw_of (p := 7) tbOk hm [0, 0, 0, 0, 12, 0, 0, 127, 255, 511] [⟨0, false, false, []⟩, ⟨1, true, false, [15, 17, 18, 19, 20, 21, 22, 23, 11]⟩, ⟨2, false, false, []⟩, ⟨3, true, false, [15, 16, 17, 19, 20, 21, 22, 23, 11]⟩, ⟨5, false, false, []⟩, ⟨6, false, false, []⟩, ⟨4, true, false, [15, 16, 20, 21, 22, 23, 11]⟩, ⟨7, true, false, [23, 11]⟩, ⟨8, true, false, [11]⟩, ⟨9, false, false, []⟩] (by kernel_rfl) ?_
 refine gg (k := ?_)
 refine cmks (hK) Tryz.call21 0 [] [] [] ?_
 refine gg (k := ?_)
 simp only [takeL, dropL, List.map_cons, List.map_nil, List.cons_append, List.nil_append, List.append_nil, List.length_cons, List.length_nil, Nat.reduceAdd]
 refine cdet (hR) Tryz.call22 [] ?_
 refine ggO (k := ?_)
 conv => whnf
 refine gcl (hA := fun hG => ⟨trivial, hG, hG, trivial⟩) (k := ?_)
 refine cmks (hF) Tryz.call23 0 [] [] [] ?_
 refine gg (k := ?_)
 rw [decide_eq_false (by omega : ¬ (65536 : Int) < (d.length : Int))]
 refine gg (k := ?_)
 refine cmks (hM) Tryz.call15 7 [0, 1, 2, 3, 4, 5, 6] [0, 0, 0, 0, 0, 0, 0] [] ?_
 refine gg (k := ?_)
 refine draw_of (p := 7) tbOk hm [0, 0, 0, 4, 12, 28, 0, 0, 252, 508, 1020, 1020, 1020, 2045, 10237, 26621, 61439, 126975, 258047, 524287] [⟨0, false, false, []⟩, ⟨1, false, false, []⟩, ⟨2, false, false, []⟩, ⟨3, true, false, [53, 54, 57, 58, 59, 60, 61, 52, 62, 63, 64, 65, 66, 67, 68, 12]⟩, ⟨4, true, false, [53, 54, 58, 59, 60, 61, 52, 62, 63, 64, 65, 66, 67, 68, 12]⟩, ⟨5, true, false, [53, 54, 59, 60, 61, 52, 62, 63, 64, 65, 66, 67, 68, 12]⟩, ⟨6, false, false, []⟩, ⟨7, true, false, [53, 54, 55, 56, 57, 58, 59, 61, 52, 62, 63, 64, 65, 66, 67, 68, 12]⟩, ⟨8, true, false, [53, 54, 52, 62, 63, 64, 65, 66, 67, 68, 12]⟩, ⟨9, false, false, []⟩, ⟨10, false, false, []⟩, ⟨11, false, false, []⟩, ⟨12, false, false, []⟩, ⟨13, true, false, [54, 63, 64, 66, 67, 68, 12]⟩, ⟨14, true, false, [54, 63, 64, 67, 68, 12]⟩, ⟨15, true, true, [54, 63, 64, 67, 68, 12]⟩, ⟨16, true, false, [64, 68, 12]⟩, ⟨17, true, false, [64, 12]⟩, ⟨18, true, true, [64, 12]⟩, ⟨19, false, false, []⟩] (by kernel_rfl) ?_
 refine gg (k := ?_)
 refine cmks (hG) Tryz.call24 6 [1, 2, 3, 4, 5, 6] [0, 0, 0, 0, 0, 0] [] ?_
 ((conv => whnf); refine And.intro ⟨.inr rfl, .inr rfl, .inr rfl, .inr rfl, .inr rfl, .inr rfl, trivial⟩ ?_)
 unfold varA
 refine gg (k := ?_)
 simp only [takeL, dropL, List.map_cons, List.map_nil, List.cons_append, List.nil_append, List.append_nil, List.length_cons, List.length_nil, Nat.reduceAdd]
 refine cmks (hN) Tryz.call25 8 [0, 1, 2, 3, 4, 5, 6, 30] [0, 0, 0, 0, 0, 0, 0, 0] [] ?_
 refine gg (k := ?_)
 refine cmks (hP) Tryz.call43 8 [0, 1, 2, 3, 4, 5, 6, 30] [0, 0, 0, 0, 0, 0, 0, 0] [] ?_
 refine gg (k := ?_)
 exact ⟨_, rfl, rfl, trivial⟩
end
end Go.Proofs.YtmjpbmcbcppkfaaGreatDoor
namespace Go.Proofs.YtmjpbmcbcppkfaaGreatDoor
open Go.RowKit
set_option linter.unusedVariables false
set_option linter.unusedSimpArgs false
set_option maxRecDepth 100000
set_option maxHeartbeats 3000000
theorem rglobal_vc : Spec Tryz.prog 19 [] [] (pms (.agg (bytesA 16 globalG)) [] []) := by
 refine spec_entry tbOk Tryz.func19 rfl Tryz.ntmps19 Tryz.results19 ?_
 refine gg (k := ?_)
 exact ⟨_, rfl, rfl, trivial⟩
theorem works23_vc : Spec Tryz.prog 6 [] [] (pms (.val (.bool true)) [] []) := by
 obtain ⟨g, hg⟩ : ∃ g : List UInt8, g = List.replicate 16 0 := ⟨_, rfl⟩
 obtain ⟨nm, hnm⟩ : ∃ nm : ByteArray, nm = strOf [120] := ⟨_, rfl⟩
 have hr : rightN nm = true := by rw [hnm]; decide
 have hgl : g.length = 16 := by rw [hg]; rfl
 have hk : kindF nm.data.toList g = 0 := by rw [hnm, hg]; decide
 have hv1 : PV (plV nm g 3 [5]) := plV_PV hr hgl (by decide) (by decide) hk
 have hv2 : PV (plV nm g 3 [5, 7]) := plV_PV hr hgl (by decide) (by decide) hk
 have hz : nm.size = 1 := by rw [hnm]; rfl
 have l1 : (kV (plV nm g 3 [5])).length = 17 := by unfold kV keyV; rw [List.length_append]; show g.length + nm.data.toList.length = 17; rw [hgl]; simp [hz]
 have l2 : (kV (plV nm g 3 [5, 7])).length = 17 := l1
 have d1 : (laidV (plV nm g 3 [5])).length = 53 := laid_len hv1.ok.ok
 have d2 : (laidV (plV nm g 3 [5, 7])).length = 54 := laid_len hv2.ok.ok
 obtain ⟨s1, o1, P1⟩ := PB.new (y := yV 900) (yV_bd 900)
 have hB := begun23_vc 900 (by decide) s1 o1
 rw [show yV 900 = 1028 from rfl] at P1
 obtain ⟨s2, e2, P2⟩ := (P1.put (by decide) _ hv1).2 (by show 0 + (12 + (kV (plV nm g 3 [5])).length + (laidV (plV nm g 3 [5])).length) ≤ 1028 - 16; rw [l1, d1]; exact Nat.le_of_ble_eq_true rfl)
 have hM2 : setM [] (kV (plV nm g 3 [5])) (laidV (plV nm g 3 [5])) = [rcdV (plV nm g 3 [5])] := rfl
 rw [hM2] at P2
 obtain ⟨s3, e3, P3⟩ := (P2.put (by decide) _ hv2).2 (by show 12 + (kV (plV nm g 3 [5])).length + (laidV (plV nm g 3 [5])).length + 0 + (12 + (kV (plV nm g 3 [5, 7])).length + (laidV (plV nm g 3 [5, 7])).length) ≤ 1028 - 16; rw [l1, d1, l2, d2]; exact Nat.le_of_ble_eq_true rfl)
 have hm3 : rcdV (plV nm g 3 [5, 7]) ∈ setM [rcdV (plV nm g 3 [5])] (kV (plV nm g 3 [5, 7])) (laidV (plV nm g 3 [5, 7])) := by
  unfold setM
  exact List.mem_append_right _ (List.mem_singleton.2 rfl)
 have hS1 := vset_new (z := 0) (d := [5]) P1 (by decide) (.inl ⟨rfl, rfl, rfl⟩) hr hgl hk (.inr (by decide)) (by decide) (by simp) 3 4 5 6 6 3 4
 rw [show vsetP s1 nm g 3 false none [5] = (0, s2) from e2] at hS1
 have hS2 := vset_there (z := 0) (d := [7]) P2 (by decide) (.inr (.inr ⟨rfl, rfl, rfl⟩)) hr hgl hk (.inl rfl) (plV nm g 3 [5]) (by show 1 + 1 ≤ 65484; decide) hv1 (List.mem_singleton.2 rfl) rfl rfl rfl 3 4 5 6 6 3 4
 rw [show vsetP s2 nm g 3 true (some (plV nm g 3 [5]).d) [7] = (0, s3) from e3] at hS2
 have hG1 := vget_in P3 _ hv2 hm3 2 (by show ((2 : Nat) : Int) ≤ 2; decide) 3 4 5 6 6 3 4
 have hG2 := vget_setup P3 3 4 5 6 6 3 4
 clear P1 P2 P3 e2 e3 o1 hm3 hM2 l1 l2 d1 d2 hv1 hv2 hz hk
 subst hg hnm
 refine spec_entry tbOk Tryz.func6 rfl Tryz.ntmps6 Tryz.results6 ?_
 refine gg (k := ?_)
 refine cmks (hB) Tryz.call7 0 [0, 0, 0, 0, 0, 0, 0, 0, 70, 71, 72, 73, 74, 75, 76] [0, 0, 0, 0, 0, 0, 0, 0, 1, 1, 1, 1, 1, 1, 1] [8, 9, 10, 11, 12, 13, 14] ?_
 refine gg (k := ?_)
 conv => whnf
 refine callK_frz 19 (er := ⟨1, .bytes [5]⟩) rfl (args' := [.ref 72 3 1 0 0, .val (.string (strOf [120])), .agg (bytesA 16 (List.replicate 16 0)), .val (.int .u32 3), .bs 0 [5]]) (AFL.cons AF.same (AFL.cons AF.same (AFL.cons AF.same (AFL.cons AF.same (AFL.cons (AF.own (l := [5]) rfl rfl) AFL.nil))))) ?_
 refine cmks (hS1) Tryz.call8 7 [72, 73, 74, 75, 76, 70, 71] [0, 0, 0, 0, 0, 0, 0] [] ?_
 refine gg (k := ?_)
 conv => whnf
 refine callK_frz 23 (er := ⟨1, .bytes [7]⟩) rfl (args' := [.ref 72 3 1 0 0, .val (.string (strOf [120])), .agg (bytesA 16 (List.replicate 16 0)), .val (.int .u32 67), .bs 0 [7]]) (AFL.cons AF.same (AFL.cons AF.same (AFL.cons AF.same (AFL.cons AF.same (AFL.cons (AF.own (l := [7]) rfl rfl) AFL.nil))))) ?_
 refine cmks (hS2) Tryz.call8 7 [72, 73, 74, 75, 76, 70, 71] [0, 0, 0, 0, 0, 0, 0] [] ?_
 refine gg (k := ?_)
 refine cmks (hG1) Tryz.call10 7 [72, 73, 74, 75, 76, 70, 71] [0, 0, 0, 0, 0, 0, 0] [] ?_
 unfold varA
 refine gg (k := ?_)
 refine cmks (rglobal_vc) Tryz.call19 0 [] [] [] ?_
 refine gg (k := ?_)
 refine cmks (hG2) Tryz.call10 7 [72, 73, 74, 75, 76, 70, 71, 0, 0, 0, 0, 0, 0, 0, 0, 0, 0, 0, 0, 0, 0, 0, 0, 0, 0, 0, 0, 0, 0, 0, 0, 0, 0, 0, 0, 77] [0, 0, 0, 0, 0, 0, 0, 0, 0, 0, 0, 0, 0, 0, 0, 0, 0, 0, 0, 0, 0, 0, 0, 0, 0, 0, 0, 0, 0, 0, 0, 0, 0, 0, 0, 1] [35] ?_
 unfold varA
 refine ggO (k := ?_)
 exact ⟨_, rfl, rfl, trivial⟩
end Go.Proofs.YtmjpbmcbcppkfaaGreatDoor
