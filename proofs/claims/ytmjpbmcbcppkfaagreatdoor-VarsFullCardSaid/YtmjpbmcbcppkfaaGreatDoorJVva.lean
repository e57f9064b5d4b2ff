/- Variables that nobody signs, over a book: the plain law. Walks of vars: Open, Mode, find, Get, Info of plain variables. Conditions: the premises of each law. -/
import Derived.Test.YtmjpbmcbcppkfaaGreatDoorJKn
import Derived.Test.YtmjpbmcbcppkfaaGreatDoorJVka
import Derived.Test.YtmjpbmcbcppkfaaGreatDoorJHa
namespace Go.Proofs.YtmjpbmcbcppkfaaGreatDoor
open Go.RowKit
set_option linter.unusedVariables false
set_option linter.unusedSimpArgs false
structure PV (v : VarV) : Prop where
 ok : VOk v
 k : kindF v.nm.data.toList v.g = 0
 z : v.t = ⟨0, 0, 0, 0, 0, 0⟩
 w : v.ow = List.replicate 32 0
structure PB (s : FlS) (y i : Nat) (M : List RK) : Prop where
 nb : NB s y i M
 hy : 128 ≤ y ∧ y ≤ 20000
 pv : ∀ r ∈ M, ∃ v, PV v ∧ r = rcdV v
theorem PB.live {s : FlS} {y i : Nat} {M : List RK} (h : PB s y i M) : s.dd = false := h.nb.live
theorem PB.lk {s : FlS} {y i : Nat} {M : List RK} (h : PB s y i M) : LK s 1 M := h.nb.lk
theorem PB.go {s : FlS} {y i : Nat} {M : List RK} (h : PB s y i M) : Goes (14 + i * 300000000000) (2 * y) y s := h.nb.go
theorem PB.up {s : FlS} {y i : Nat} {M : List RK} (h : PB s y i M) : PB s y (i + 1) M := ⟨h.nb.up, h.hy, h.pv⟩
theorem PB.nomk {s : FlS} {y i : Nat} {M : List RK} (h : PB s y i M) : ∀ r ∈ M, r.key ≠ markK :=
 rcd_mark fun r hr => by obtain ⟨v, hv, e⟩ := h.pv r hr; exact ⟨v, hv.ok, e⟩
theorem PB.there {s : FlS} {y i : Nat} {M : List RK} (h : PB s y i M) (nm : ByteArray) {g : List UInt8} (hg : g.length = 16) : (∀ r ∈ M, r.key ≠ keyV nm g) ∨ ∃ v, PV v ∧ rcdV v ∈ M ∧ v.nm = nm ∧ v.g = g := by
 by_cases q : ∃ r ∈ M, r.key = keyV nm g
 ·obtain ⟨r, hr, e⟩ := q
  obtain ⟨v, hv, rfl⟩ := h.pv r hr
  obtain ⟨e1, e2⟩ := keyV_inj hv.ok.ok.g hg e
  exact .inr ⟨v, hv, hr, e1, e2⟩
 ·exact .inl fun r hr e => q ⟨r, hr, e⟩
theorem PB.no {s : FlS} {y i : Nat} {M : List RK} (h : PB s y i M) {nm : ByteArray} {g : List UInt8} (hg : g.length = 16) (hk : kindF nm.data.toList g ≠ 0) : ∀ r ∈ M, r.key ≠ keyV nm g := by
 rcases h.there nm hg with q | ⟨v, hv, _, rfl, rfl⟩
 ·exact q
 ·exact absurd hv.k hk
theorem PB.put {s : FlS} {y i : Nat} {M : List RK} (h : PB s y i M) (hi : i ≤ 1000) (v : VarV) (hv : PV v) :
    (y - 16 < usedK M + (12 + (kV v).length + (laidV v).length) → kputP s v = (5, s)) ∧
    (usedK M + (12 + (kV v).length + (laidV v).length) ≤ y - 16 → ∃ s', kputP s v = (0, s') ∧ PB s' y (i + 1) (setM M (kV v) (laidV v))) := by
 have e : kputP s v = s.set 1 (keyV v.nm v.g) (laidV v) := if_pos hv.ok.put
 obtain ⟨G, h1, h2⟩ := h.nb.ex
 have hy := h.hy
 obtain ⟨a, b⟩ := h2.set (by omega) (by omega) (keyV_len hv.ok) (val := laidV v) (by rw [laid_len hv.ok.ok]; have := hv.ok.d; omega)
 unfold kV
 refine ⟨fun q => e.trans (a (by omega)), fun q => ?_⟩
 obtain ⟨s', e', _⟩ := b (by omega)
 have e2 := e.trans e'
 have hp := h.nb.put h.hy hi v hv.ok.ok
 rw [e2] at hp
 rcases hp with ⟨_, n⟩ | ⟨_, n, _⟩
 ·exact absurd rfl n
 ·refine ⟨s', e2, n, h.hy, fun r hr => ?_⟩
  unfold setM at hr
  rcases List.mem_append.1 hr with q | q
  ·exact h.pv r (List.mem_filter.1 q).1
  ·rw [List.mem_singleton] at q
   exact ⟨v, hv, q⟩
theorem PB.new {y : Nat} (hy : 128 ≤ y ∧ y ≤ 20000) : ∃ s1, (FlS.new 2 y).opn 1 = (0, s1) ∧ PB s1 y 0 [] := by
 obtain ⟨s1, h1, h2⟩ := new_NB hy
 exact ⟨s1, h1, h2, hy, by simp⟩
def plV (nm : ByteArray) (g : List UInt8) (a : Int) (d : List UInt8) : VarV := ⟨nm, g, a, ⟨0, 0, 0, 0, 0, 0⟩, List.replicate 32 0, d⟩
theorem plV_PV {nm : ByteArray} {g : List UInt8} {a : Int} {d : List UInt8} (hn : rightN nm = true) (hg : g.length = 16) (ha : 0 ≤ a ∧ a ≤ 4294967295) (hd : d.length ≤ 65484) (hk : kindF nm.data.toList g = 0) : PV (plV nm g a d) := by
 have hz : nm.size ≤ 64 := by
  have := hn
  unfold rightN at this
  simp only [Bool.and_eq_true, decide_eq_true_eq] at this
  omega
 have ht : (⟨0, 0, 0, 0, 0, 0⟩ : Tm).ok := by unfold Tm.ok; decide
 exact ⟨⟨⟨by show nm.size ≤ _; omega, hg, ha, ht, by simp [plV], by show d.length ≤ _; omega⟩, hn, ⟨ht, .inl rfl⟩, hd⟩, hk, rfl, rfl⟩
end Go.Proofs.YtmjpbmcbcppkfaaGreatDoor
namespace Go.Proofs.YtmjpbmcbcppkfaaGreatDoor
open Go.RowKit
set_option linter.unusedVariables false
set_option linter.unusedSimpArgs false
set_option maxRecDepth 100000
set_option maxHeartbeats 1500000
theorem vopen_vc {W : Int} {n k : Nat} (s : FlS) (c : Nat) (go : Goes W n k s) (hW : W ≤ 1000000000000000) (pa : Lies n k 0 c) (pb : Lies n k c c) (hn : n = 2 * c * k) (hd : s.dd = false) (h0 : (s.opn c).1 = 0) (v0 v1 : Nat) : Spec Tryz.prog 14 [.ref 0 v0 6 0 0] [⟨v0, .obj [.own 1 v1 1 0 s.l.length, .val (.int .i64 (s.k : Int)), .val (.int .i64 s.ar), .val (.int .i64 s.pt), .val (.bool s.dd), .val (.int .i64 s.wr)]⟩, ⟨v1, .bytes s.l⟩]
   (pms (.tup [.ref 18 1 1 0 0, .val (.int .i64 0)]) [⟨v0, .obj [.own 1 v1 1 0 (s.opn c).2.l.length, .val (.int .i64 ((s.opn c).2.k : Int)), .val (.int .i64 (s.opn c).2.ar), .val (.int .i64 (s.opn c).2.pt), .val (.bool (s.opn c).2.dd), .val (.int .i64 (s.opn c).2.wr)]⟩, ⟨v1, .bytes (s.opn c).2.l⟩] [(18, ⟨1, .obj [.ref 3 2 1 0 0]⟩), (3, ⟨2, .obj [.ref 4 3 3 0 0]⟩), (4, ⟨3, .obj [.ref 0 v0 6 0 0, .ref 5 4 3 0 0, .ref 6 4 3 0 0]⟩), (5, ⟨4, .obj [.ref 0 v0 6 0 0, .val (.int .i64 ((0 : Nat) : Int)), .val (.int .i64 (c : Int))]⟩), (6, ⟨4, .obj [.ref 0 v0 6 0 0, .val (.int .i64 (c : Int)), .val (.int .i64 (c : Int))]⟩)]) := by
 have hop := kopen_vc s c go hW pa pb hn hd h0 v0 v1
 refine spec_entry tbOk Tryz.func14 rfl Tryz.ntmps14 Tryz.results14 ?_
 refine gg (k := ?_)
 refine cmks (hop) Tryz.call30 2 [0, 1, 0, 0, 0, 0, 0, 0, 0, 0, 4, 5, 6, 0, 0, 0, 0, 0, 3] [0, 0, 0, 0, 0, 0, 0, 0, 0, 0, 1, 1, 1, 0, 0, 0, 0, 0, 1] [18, 10, 11, 12] ?_
 refine gg (k := ?_)
 exact ⟨_, rfl, rfl, rfl, rfl, rfl, rfl, rfl, trivial⟩
def yV (z : Int) : Nat := (128 + z % 16384).toNat
theorem yV_eq (z : Int) : ((yV z : Nat) : Int) = 128 + z % 16384 := by unfold yV; omega
theorem yV_bd (z : Int) : 128 ≤ yV z ∧ yV z ≤ 20000 := by have := yV_eq z; omega
theorem begun23_vc (z : Int) (hz : 0 ≤ z ∧ z ≤ 65535) (s1 : FlS) (h1 : (FlS.new 2 (yV z)).opn 1 = (0, s1)) : Spec Tryz.prog 7 [.val (.int .u16 z)] []
   (pms (.tup [.ref 8 2 6 0 0, .ref 10 2 1 0 0]) [] [(8, ⟨2, .obj [.own 9 3 1 0 s1.l.length, .val (.int .i64 (s1.k : Int)), .val (.int .i64 s1.ar), .val (.int .i64 s1.pt), .val (.bool s1.dd), .val (.int .i64 s1.wr)]⟩), (9, ⟨3, .bytes s1.l⟩), (10, ⟨2, .obj [.ref 11 3 1 0 0]⟩), (11, ⟨3, .obj [.ref 12 4 3 0 0]⟩), (12, ⟨4, .obj [.ref 8 2 6 0 0, .ref 13 5 3 0 0, .ref 14 5 3 0 0]⟩), (13, ⟨5, .obj [.ref 8 2 6 0 0, .val (.int .i64 ((0 : Nat) : Int)), .val (.int .i64 ((1 : Nat) : Int))]⟩), (14, ⟨5, .obj [.ref 8 2 6 0 0, .val (.int .i64 ((1 : Nat) : Int)), .val (.int .i64 ((1 : Nat) : Int))]⟩)]) := by
 obtain ⟨y1, y2⟩ := yV_bd z
 have hy := yV_eq z
 obtain ⟨y, hye⟩ : ∃ y, y = yV z := ⟨_, rfl⟩
 rw [← hye] at y1 y2 hy h1
 have la : Lies (2 * y) y 0 1 := ⟨by omega, by omega, by omega, by omega⟩
 have lb : Lies (2 * y) y 1 1 := ⟨by omega, by omega, by omega, by omega⟩
 have g0 : Goes 0 (2 * y) y (FlS.new 2 y) := Goes.new 2 y (by decide) (by omega)
 have hN := spec_new 2 y (by decide) (by omega)
 have hop := vopen_vc (FlS.new 2 y) 1 g0 (by decide) la lb (by omega) rfl (by rw [h1]) 2 3
 rw [h1] at hop
 generalize FlS.new 2 y = S at hN hop
 refine spec_entry tbOk Tryz.func7 rfl Tryz.ntmps7 Tryz.results7 ?_
 refine gg (k := ?_)
 rw [← hy]
 refine cmks (hN) Tryz.call20 0 [0, 0, 0, 0, 0, 0, 0, 0, 0, 0, 0, 0, 0, 0, 0, 0, 0, 0, 0, 0, 0, 0, 0, 0, 9, 0, 0, 8] [0, 0, 0, 0, 0, 0, 0, 0, 0, 0, 0, 0, 0, 0, 0, 0, 0, 0, 0, 0, 0, 0, 0, 0, 1, 0, 0, 1] [27, 24] ?_
 refine gg (k := ?_)
 refine cmks (hop) Tryz.call14 2 [8, 9, 0, 11, 12, 13, 14, 0, 0, 0, 0, 0, 0, 0, 0, 0, 0, 0, 10] [0, 0, 0, 1, 1, 1, 1, 0, 0, 0, 0, 0, 0, 0, 0, 0, 0, 0, 1] [18, 3, 4, 5, 6] ?_
 refine gg (k := ?_)
 exact ⟨_, rfl, rfl, rfl, rfl, rfl, rfl, rfl, rfl, rfl, trivial⟩
theorem rmode0_vc : Spec Tryz.prog 33 [.val (.bool false), .val (.int .u8 0)] [] (pms (.val (.int .u8 0)) [] []) := by
 refine spec_entry tbOk Tryz.func33 rfl Tryz.ntmps33 Tryz.results33 ?_
 refine gg (k := ?_)
 exact ⟨_, rfl, rfl, trivial⟩
theorem fits0_vc (a : Int) (ha : a = 3 ∨ a = 7 ∨ a = 67) : Spec Tryz.prog 23 [.val (.int .u8 0), .val (.int .u32 a)] [] (pms (.val (.int .i64 0)) [] []) := by
 rcases ha with rfl | rfl | rfl <;> (
 refine spec_entry tbOk Tryz.func23 rfl Tryz.ntmps23 Tryz.results23 ?_
 refine gg (k := ?_)
 refine ⟨fun h => absurd h (by decide), fun _ => ?_⟩
 refine gg (k := ?_)
 exact ⟨_, rfl, rfl, trivial⟩)
theorem told0_vc : Spec Tryz.prog 45 [.val (.string (strOf [83, 101, 116, 117, 112, 77, 111, 100, 101])), .val (.int .u8 0)] [] (pms (.val (.int .u8 1)) [] []) := by
 refine spec_entry tbOk Tryz.func45 rfl Tryz.ntmps45 Tryz.results45 ?_
 refine gg (k := ?_)
 exact ⟨_, rfl, rfl, trivial⟩
section
variable {s : FlS} {y i : Nat} {M : List RK}
theorem vmode_vc (h : PB s y i M) (vv vk vs va vb v0 v1 : Nat) : Spec Tryz.prog 15 [.ref 0 vv 1 0 0] [⟨vv, .obj [.ref 1 vk 1 0 0]⟩, ⟨vk, .obj [.ref 2 vs 3 0 0]⟩, ⟨vs, .obj [.ref 5 v0 6 0 0, .ref 3 va 3 0 0, .ref 4 vb 3 0 0]⟩, ⟨va, .obj [.ref 5 v0 6 0 0, .val (.int .i64 ((0 : Nat) : Int)), .val (.int .i64 ((1 : Nat) : Int))]⟩, ⟨vb, .obj [.ref 5 v0 6 0 0, .val (.int .i64 ((1 : Nat) : Int)), .val (.int .i64 ((1 : Nat) : Int))]⟩, ⟨v0, .obj [.own 6 v1 1 0 s.l.length, .val (.int .i64 (s.k : Int)), .val (.int .i64 s.ar), .val (.int .i64 s.pt), .val (.bool s.dd), .val (.int .i64 s.wr)]⟩, ⟨v1, .bytes s.l⟩]
   (pms (.tup [.val (.int .u8 0), .val (.int .i64 0)]) [⟨vv, .obj [.ref 1 vk 1 0 0]⟩, ⟨vk, .obj [.ref 2 vs 3 0 0]⟩, ⟨vs, .obj [.ref 5 v0 6 0 0, .ref 3 va 3 0 0, .ref 4 vb 3 0 0]⟩, ⟨va, .obj [.ref 5 v0 6 0 0, .val (.int .i64 ((0 : Nat) : Int)), .val (.int .i64 ((1 : Nat) : Int))]⟩, ⟨vb, .obj [.ref 5 v0 6 0 0, .val (.int .i64 ((1 : Nat) : Int)), .val (.int .i64 ((1 : Nat) : Int))]⟩, ⟨v0, .obj [.own 6 v1 1 0 s.l.length, .val (.int .i64 (s.k : Int)), .val (.int .i64 s.ar), .val (.int .i64 s.pt), .val (.bool s.dd), .val (.int .i64 s.wr)]⟩, ⟨v1, .bytes s.l⟩] []) := by
 have hG := kget_no s 1 h.lk h.go (lie0 h.hy) (lie1 h.hy) (strOf nPK) globalG rfl (by decide) (h.no rfl (by decide)) vk vs va vb v0 v1
 have hM := kmark_no s 1 h.lk h.go (lie0 h.hy) (lie1 h.hy) h.nomk vk vs va vb v0 v1
 clear h
 refine spec_entry tbOk Tryz.func15 rfl Tryz.ntmps15 Tryz.results15 ?_
 refine gg (k := ?_)
 refine draw_of (p := 7) tbOk hm [0, 1, 3, 7, 0, 31, 63, 127, 127, 127, 0, 1279, 3583, 8191] [⟨0, false, false, []⟩, ⟨1, true, false, [13, 14, 15, 16, 10, 17, 18, 19, 4, 5, 6]⟩, ⟨2, true, false, [14, 15, 16, 10, 17, 18, 19, 4, 5, 6]⟩, ⟨3, true, false, [15, 16, 10, 17, 18, 19, 4, 5, 6]⟩, ⟨10, true, false, [11, 12, 13, 14, 15, 16, 10, 17, 18, 19, 5, 6]⟩, ⟨4, true, false, [11, 12, 13, 14, 16, 10, 17, 18, 19, 4, 5, 6]⟩, ⟨5, true, false, [10, 17, 18, 19, 4, 5, 6]⟩, ⟨6, false, false, []⟩, ⟨7, false, false, []⟩, ⟨8, false, false, []⟩, ⟨9, false, false, []⟩, ⟨11, true, true, [18, 19, 5, 6]⟩, ⟨12, false, false, []⟩, ⟨13, false, false, []⟩] (by kernel_rfl) ?_
 refine gg (k := ?_)
 refine cmks (global_vc) Tryz.call31 0 [] [] [] ?_
 refine gg (k := ?_)
 refine cmks (hG) Tryz.call24 6 [1, 2, 3, 4, 5, 6] [0, 0, 0, 0, 0, 0] [] ?_
 ((conv => whnf); refine And.intro ⟨.inr rfl, .inr rfl, .inr rfl, .inr rfl, .inr rfl, .inr rfl, trivial⟩ ?_)
 refine gg (k := ?_)
 refine cmks (hM) Tryz.call32 6 [1, 2, 3, 4, 5, 6] [0, 0, 0, 0, 0, 0] [] ?_
 refine gg (k := ?_)
 refine cmks (rmode0_vc) Tryz.call33 0 [] [] [] ?_
 refine gg (k := ?_)
 exact ⟨_, rfl, rfl, trivial⟩
theorem vfind_in (h : PB s y i M) (v : VarV) (hv : PV v) (hm : rcdV v ∈ M) (vv vk vs va vb v0 v1 : Nat) : Spec Tryz.prog 26 [.ref 0 vv 1 0 0, .val (.string v.nm), .agg (bytesA 16 v.g)] [⟨vv, .obj [.ref 1 vk 1 0 0]⟩, ⟨vk, .obj [.ref 2 vs 3 0 0]⟩, ⟨vs, .obj [.ref 5 v0 6 0 0, .ref 3 va 3 0 0, .ref 4 vb 3 0 0]⟩, ⟨va, .obj [.ref 5 v0 6 0 0, .val (.int .i64 ((0 : Nat) : Int)), .val (.int .i64 ((1 : Nat) : Int))]⟩, ⟨vb, .obj [.ref 5 v0 6 0 0, .val (.int .i64 ((1 : Nat) : Int)), .val (.int .i64 ((1 : Nat) : Int))]⟩, ⟨v0, .obj [.own 6 v1 1 0 s.l.length, .val (.int .i64 (s.k : Int)), .val (.int .i64 s.ar), .val (.int .i64 s.pt), .val (.bool s.dd), .val (.int .i64 s.wr)]⟩, ⟨v1, .bytes s.l⟩]
   (pms (.tup [.agg (varA (.bs 0 v.d) v), .val (.bool true), .val (.int .i64 0)]) [⟨vv, .obj [.ref 1 vk 1 0 0]⟩, ⟨vk, .obj [.ref 2 vs 3 0 0]⟩, ⟨vs, .obj [.ref 5 v0 6 0 0, .ref 3 va 3 0 0, .ref 4 vb 3 0 0]⟩, ⟨va, .obj [.ref 5 v0 6 0 0, .val (.int .i64 ((0 : Nat) : Int)), .val (.int .i64 ((1 : Nat) : Int))]⟩, ⟨vb, .obj [.ref 5 v0 6 0 0, .val (.int .i64 ((1 : Nat) : Int)), .val (.int .i64 ((1 : Nat) : Int))]⟩, ⟨v0, .obj [.own 6 v1 1 0 s.l.length, .val (.int .i64 (s.k : Int)), .val (.int .i64 s.ar), .val (.int .i64 s.pt), .val (.bool s.dd), .val (.int .i64 s.wr)]⟩, ⟨v1, .bytes s.l⟩] []) := by
 have hG := kget_z s 1 h.lk h.go (lie0 h.hy) (lie1 h.hy) v hv.ok hm vk vs va vb v0 v1
 have hK := kind_vc v.nm hv.ok.ok.nm v.g hv.ok.ok.g
 rw [hv.k] at hK
 clear h hm
 unfold varA at hG ⊢
 refine spec_entry tbOk Tryz.func26 rfl Tryz.ntmps26 Tryz.results26 ?_
 refine gg (k := ?_)
 refine draw_of (p := 7) tbOk hm [0, 1, 3, 7, 0, 0, 63, 127, 255, 255, 255, 0, 2559, 7167, 16383] [⟨0, false, false, []⟩, ⟨1, true, false, [16, 17, 18, 19, 20, 13, 21, 22, 23, 9, 10, 11]⟩, ⟨2, true, false, [17, 18, 19, 20, 13, 21, 22, 23, 9, 10, 11]⟩, ⟨3, true, false, [18, 19, 20, 13, 21, 22, 23, 9, 10, 11]⟩, ⟨4, false, false, []⟩, ⟨5, true, false, [14, 15, 16, 17, 18, 20, 13, 21, 22, 23, 9, 10, 11]⟩, ⟨11, true, false, [14, 15, 16, 17, 18, 19, 20, 13, 21, 22, 23, 10, 11]⟩, ⟨6, true, false, [13, 21, 22, 23, 9, 10, 11]⟩, ⟨7, false, false, []⟩, ⟨8, false, false, []⟩, ⟨9, false, false, []⟩, ⟨10, false, false, []⟩, ⟨12, true, true, [22, 23, 10, 11]⟩, ⟨13, false, false, []⟩, ⟨14, false, false, []⟩] (by kernel_rfl) ?_
 refine gg (k := ?_)
 refine cmks (hG) Tryz.call24 6 [1, 2, 3, 4, 5, 6] [0, 0, 0, 0, 0, 0] [] ?_
 ((conv => whnf); refine And.intro ⟨.inr rfl, .inr rfl, .inr rfl, .inr rfl, .inr rfl, .inr rfl, trivial⟩ ?_)
 refine ggO (k := ?_)
 conv => whnf
 refine gcl (hA := fun hG => ⟨trivial, hG, hG, trivial⟩) (k := ?_)
 refine cmks (hK) Tryz.call21 0 [] [] [] ?_
 refine gg (k := ?_)
 exact ⟨_, rfl, rfl, trivial⟩
def setV : VarV := ⟨strOf nSetup, globalG, 6, ⟨0, 0, 0, 0, 0, 0⟩, List.replicate 32 0, [1]⟩
theorem vfind_setup (h : PB s y i M) (vv vk vs va vb v0 v1 : Nat) : Spec Tryz.prog 26 [.ref 0 vv 1 0 0, .val (.string (strOf nSetup)), .agg (bytesA 16 globalG)] [⟨vv, .obj [.ref 1 vk 1 0 0]⟩, ⟨vk, .obj [.ref 2 vs 3 0 0]⟩, ⟨vs, .obj [.ref 5 v0 6 0 0, .ref 3 va 3 0 0, .ref 4 vb 3 0 0]⟩, ⟨va, .obj [.ref 5 v0 6 0 0, .val (.int .i64 ((0 : Nat) : Int)), .val (.int .i64 ((1 : Nat) : Int))]⟩, ⟨vb, .obj [.ref 5 v0 6 0 0, .val (.int .i64 ((1 : Nat) : Int)), .val (.int .i64 ((1 : Nat) : Int))]⟩, ⟨v0, .obj [.own 6 v1 1 0 s.l.length, .val (.int .i64 (s.k : Int)), .val (.int .i64 s.ar), .val (.int .i64 s.pt), .val (.bool s.dd), .val (.int .i64 s.wr)]⟩, ⟨v1, .bytes s.l⟩]
   (pms (.tup [.agg (varA (.own 56 1 1 0 1) setV), .val (.bool true), .val (.int .i64 0)]) [⟨vv, .obj [.ref 1 vk 1 0 0]⟩, ⟨vk, .obj [.ref 2 vs 3 0 0]⟩, ⟨vs, .obj [.ref 5 v0 6 0 0, .ref 3 va 3 0 0, .ref 4 vb 3 0 0]⟩, ⟨va, .obj [.ref 5 v0 6 0 0, .val (.int .i64 ((0 : Nat) : Int)), .val (.int .i64 ((1 : Nat) : Int))]⟩, ⟨vb, .obj [.ref 5 v0 6 0 0, .val (.int .i64 ((1 : Nat) : Int)), .val (.int .i64 ((1 : Nat) : Int))]⟩, ⟨v0, .obj [.own 6 v1 1 0 s.l.length, .val (.int .i64 (s.k : Int)), .val (.int .i64 s.ar), .val (.int .i64 s.pt), .val (.bool s.dd), .val (.int .i64 s.wr)]⟩, ⟨v1, .bytes s.l⟩] [(56, ⟨1, .bytes [1]⟩)]) := by
 have hG := kget_no s 1 h.lk h.go (lie0 h.hy) (lie1 h.hy) (strOf nSetup) globalG rfl (by decide) (h.no rfl (by decide)) vk vs va vb v0 v1
 have hK := kind_vc (strOf nSetup) (by decide) globalG rfl
 rw [show kindF (strOf nSetup).data.toList globalG = 4 by decide] at hK
 have hM := vmode_vc h vv vk vs va vb v0 v1
 clear h
 refine spec_entry tbOk Tryz.func26 rfl Tryz.ntmps26 Tryz.results26 ?_
 refine gg (k := ?_)
 refine draw_of (p := 7) tbOk hm [0, 1, 3, 7, 0, 0, 63, 127, 255, 255, 255, 0, 2559, 7167, 16383] [⟨0, false, false, []⟩, ⟨1, true, false, [16, 17, 18, 19, 20, 13, 21, 22, 23, 9, 10, 11]⟩, ⟨2, true, false, [17, 18, 19, 20, 13, 21, 22, 23, 9, 10, 11]⟩, ⟨3, true, false, [18, 19, 20, 13, 21, 22, 23, 9, 10, 11]⟩, ⟨4, false, false, []⟩, ⟨5, true, false, [14, 15, 16, 17, 18, 20, 13, 21, 22, 23, 9, 10, 11]⟩, ⟨11, true, false, [14, 15, 16, 17, 18, 19, 20, 13, 21, 22, 23, 10, 11]⟩, ⟨6, true, false, [13, 21, 22, 23, 9, 10, 11]⟩, ⟨7, false, false, []⟩, ⟨8, false, false, []⟩, ⟨9, false, false, []⟩, ⟨10, false, false, []⟩, ⟨12, true, true, [22, 23, 10, 11]⟩, ⟨13, false, false, []⟩, ⟨14, false, false, []⟩] (by kernel_rfl) ?_
 refine gg (k := ?_)
 refine cmks (hG) Tryz.call24 6 [1, 2, 3, 4, 5, 6] [0, 0, 0, 0, 0, 0] [] ?_
 ((conv => whnf); refine And.intro ⟨.inr rfl, .inr rfl, .inr rfl, .inr rfl, .inr rfl, .inr rfl, trivial⟩ ?_)
 refine ggO (k := ?_)
 conv => whnf
 refine gcl (hA := fun hG => ⟨trivial, hG, hG, trivial⟩) (k := ?_)
 refine cmks (hK) Tryz.call21 0 [] [] [] ?_
 refine gg (k := ?_)
 refine cmks (hM) Tryz.call15 7 [0, 1, 2, 3, 4, 5, 6] [0, 0, 0, 0, 0, 0, 0] [] ?_
 refine gg (k := ?_)
 refine draw_of (p := 7) tbOk hm [0, 0, 0, 0, 12, 28, 63, 127, 255, 511] [⟨0, false, false, []⟩, ⟨1, true, false, [44, 46, 47, 48, 49, 50, 7, 8]⟩, ⟨2, false, false, []⟩, ⟨3, false, false, []⟩, ⟨4, true, false, [44, 45, 49, 50, 7, 8]⟩, ⟨5, true, false, [44, 45, 50, 7, 8]⟩, ⟨6, true, false, [7, 8]⟩, ⟨7, true, true, [7, 8]⟩, ⟨8, false, false, []⟩, ⟨9, false, false, []⟩] (by kernel_rfl) ?_
 refine gg (k := ?_)
 refine cmks (told0_vc) Tryz.call45 0 [] [] [] ?_
 refine gg (k := ?_)
 exact ⟨_, rfl, rfl, rfl, trivial⟩
theorem vget_in (h : PB s y i M) (v : VarV) (hv : PV v) (hm : rcdV v ∈ M) (n : Int) (hn : (v.d.length : Int) ≤ n) (vv vk vs va vb v0 v1 : Nat) : Spec Tryz.prog 10 [.ref 0 vv 1 0 0, .val (.string v.nm), .agg (bytesA 16 v.g), .val (.int .i64 n)] [⟨vv, .obj [.ref 1 vk 1 0 0]⟩, ⟨vk, .obj [.ref 2 vs 3 0 0]⟩, ⟨vs, .obj [.ref 5 v0 6 0 0, .ref 3 va 3 0 0, .ref 4 vb 3 0 0]⟩, ⟨va, .obj [.ref 5 v0 6 0 0, .val (.int .i64 ((0 : Nat) : Int)), .val (.int .i64 ((1 : Nat) : Int))]⟩, ⟨vb, .obj [.ref 5 v0 6 0 0, .val (.int .i64 ((1 : Nat) : Int)), .val (.int .i64 ((1 : Nat) : Int))]⟩, ⟨v0, .obj [.own 6 v1 1 0 s.l.length, .val (.int .i64 (s.k : Int)), .val (.int .i64 s.ar), .val (.int .i64 s.pt), .val (.bool s.dd), .val (.int .i64 s.wr)]⟩, ⟨v1, .bytes s.l⟩]
   (pms (.tup [.agg (varA (.bs 0 v.d) v), .val (.int .i64 (v.d.length : Int)), .val (.int .i64 0)]) [⟨vv, .obj [.ref 1 vk 1 0 0]⟩, ⟨vk, .obj [.ref 2 vs 3 0 0]⟩, ⟨vs, .obj [.ref 5 v0 6 0 0, .ref 3 va 3 0 0, .ref 4 vb 3 0 0]⟩, ⟨va, .obj [.ref 5 v0 6 0 0, .val (.int .i64 ((0 : Nat) : Int)), .val (.int .i64 ((1 : Nat) : Int))]⟩, ⟨vb, .obj [.ref 5 v0 6 0 0, .val (.int .i64 ((1 : Nat) : Int)), .val (.int .i64 ((1 : Nat) : Int))]⟩, ⟨v0, .obj [.own 6 v1 1 0 s.l.length, .val (.int .i64 (s.k : Int)), .val (.int .i64 s.ar), .val (.int .i64 s.pt), .val (.bool s.dd), .val (.int .i64 s.wr)]⟩, ⟨v1, .bytes s.l⟩] []) := by
 have hF := vfind_in h v hv hm vv vk vs va vb v0 v1
 have hR := right_vc v.nm hv.ok.ok.nm
 rw [hv.ok.r] at hR
 clear h hm
 unfold varA at hF ⊢
 refine spec_entry tbOk Tryz.func10 rfl Tryz.ntmps10 Tryz.results10 ?_
 refine gg (k := ?_)
 refine cdet (hR) Tryz.call22 [] ?_
 refine gg (k := ?_)
 rw [decide_eq_false (by omega : ¬ n < 0)]
 refine gg (k := ?_)
 refine cmks (hF) Tryz.call26 7 [0, 1, 2, 3, 4, 5, 6] [0, 0, 0, 0, 0, 0, 0] [] ?_
 refine gg (k := ?_)
 exact ⟨_, rfl, rfl, trivial⟩
theorem vget_setup (h : PB s y i M) (vv vk vs va vb v0 v1 : Nat) : Spec Tryz.prog 10 [.ref 0 vv 1 0 0, .val (.string (strOf nSetup)), .agg (bytesA 16 globalG), .val (.int .i64 1)] [⟨vv, .obj [.ref 1 vk 1 0 0]⟩, ⟨vk, .obj [.ref 2 vs 3 0 0]⟩, ⟨vs, .obj [.ref 5 v0 6 0 0, .ref 3 va 3 0 0, .ref 4 vb 3 0 0]⟩, ⟨va, .obj [.ref 5 v0 6 0 0, .val (.int .i64 ((0 : Nat) : Int)), .val (.int .i64 ((1 : Nat) : Int))]⟩, ⟨vb, .obj [.ref 5 v0 6 0 0, .val (.int .i64 ((1 : Nat) : Int)), .val (.int .i64 ((1 : Nat) : Int))]⟩, ⟨v0, .obj [.own 6 v1 1 0 s.l.length, .val (.int .i64 (s.k : Int)), .val (.int .i64 s.ar), .val (.int .i64 s.pt), .val (.bool s.dd), .val (.int .i64 s.wr)]⟩, ⟨v1, .bytes s.l⟩]
   (pms (.tup [.agg (varA (.own 35 2 1 0 1) setV), .val (.int .i64 1), .val (.int .i64 0)]) [⟨vv, .obj [.ref 1 vk 1 0 0]⟩, ⟨vk, .obj [.ref 2 vs 3 0 0]⟩, ⟨vs, .obj [.ref 5 v0 6 0 0, .ref 3 va 3 0 0, .ref 4 vb 3 0 0]⟩, ⟨va, .obj [.ref 5 v0 6 0 0, .val (.int .i64 ((0 : Nat) : Int)), .val (.int .i64 ((1 : Nat) : Int))]⟩, ⟨vb, .obj [.ref 5 v0 6 0 0, .val (.int .i64 ((1 : Nat) : Int)), .val (.int .i64 ((1 : Nat) : Int))]⟩, ⟨v0, .obj [.own 6 v1 1 0 s.l.length, .val (.int .i64 (s.k : Int)), .val (.int .i64 s.ar), .val (.int .i64 s.pt), .val (.bool s.dd), .val (.int .i64 s.wr)]⟩, ⟨v1, .bytes s.l⟩] [(35, ⟨2, .bytes [1]⟩)]) := by
 have hF := vfind_setup h vv vk vs va vb v0 v1
 have hR := right_vc (strOf nSetup) (by decide)
 rw [show rightN (strOf nSetup) = true by decide] at hR
 clear h
 unfold varA at hF ⊢
 refine spec_entry tbOk Tryz.func10 rfl Tryz.ntmps10 Tryz.results10 ?_
 refine gg (k := ?_)
 refine cdet (hR) Tryz.call22 [] ?_
 refine gg (k := ?_)
 refine cmks (hF) Tryz.call26 7 [0, 1, 2, 3, 4, 5, 6, 0, 0, 0, 0, 0, 0, 0, 0, 0, 0, 0, 0, 0, 0, 0, 0, 0, 0, 0, 0, 0, 0, 0, 0, 0, 0, 0, 0, 0, 0, 0, 0, 0, 0, 0, 0, 0, 0, 0, 0, 0, 0, 0, 0, 0, 0, 0, 0, 0, 35] [0, 0, 0, 0, 0, 0, 0, 0, 0, 0, 0, 0, 0, 0, 0, 0, 0, 0, 0, 0, 0, 0, 0, 0, 0, 0, 0, 0, 0, 0, 0, 0, 0, 0, 0, 0, 0, 0, 0, 0, 0, 0, 0, 0, 0, 0, 0, 0, 0, 0, 0, 0, 0, 0, 0, 0, 1] [56] ?_
 refine gg (k := ?_)
 exact ⟨_, rfl, rfl, rfl, trivial⟩
end
end Go.Proofs.YtmjpbmcbcppkfaaGreatDoor
