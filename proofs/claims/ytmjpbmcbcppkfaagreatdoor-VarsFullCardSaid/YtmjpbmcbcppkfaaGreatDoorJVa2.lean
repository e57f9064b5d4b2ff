/- Walks of vars: Set of variables that nobody signs. Conditions: none. -/
import Derived.Test.YtmjpbmcbcppkfaaGreatDoorJVva
namespace Go.Proofs.YtmjpbmcbcppkfaaGreatDoor
open Go.RowKit
set_option linter.unusedVariables false
set_option linter.unusedSimpArgs false
set_option maxRecDepth 100000
set_option maxHeartbeats 1500000
def cllA (nm : ByteArray) (g : List UInt8) (k a : Int) (d x : AV) (v : VarV) (is : Bool) (m : Int) : List AV := [.val (.string nm), .val (bv (g.getD 0 0)), .val (bv (g.getD 1 0)), .val (bv (g.getD 2 0)), .val (bv (g.getD 3 0)), .val (bv (g.getD 4 0)), .val (bv (g.getD 5 0)), .val (bv (g.getD 6 0)), .val (bv (g.getD 7 0)), .val (bv (g.getD 8 0)), .val (bv (g.getD 9 0)), .val (bv (g.getD 10 0)), .val (bv (g.getD 11 0)), .val (bv (g.getD 12 0)), .val (bv (g.getD 13 0)), .val (bv (g.getD 14 0)), .val (bv (g.getD 15 0)), .val (.int .u8 k), .val (.int .u32 a), d] ++ (varA x v ++ [.val (.bool is), .val (.int .u8 m)])
def wasX : Option (List UInt8) → AV
 | some l => .bs 0 l
 | none => .val (.slice none 0 0)
def AtO (a a' : Int) (q : Bool) : Prop := (a = 3 ∧ a' = 3 ∧ q = false) ∨ (a = 7 ∧ a' = 7 ∧ q = false) ∨ (a = 67 ∧ a' = 3 ∧ q = true)
section
variable {nm : ByteArray} {g : List UInt8} {a a' : Int} {q : Bool} {z : Nat} {d : List UInt8} {w : Option (List UInt8)} {v : VarV} {is : Bool}
theorem more_vc (h : AtO a a' q) (vc : Nat) : Spec Tryz.prog 60 [.ref 0 vc 79 0 0] [⟨vc, .obj (cllA nm g 0 a (.bs z d) (wasX w) v is 0)⟩] (pms (.val (.bool q)) [⟨vc, .obj (cllA nm g 0 a (.bs z d) (wasX w) v is 0)⟩] []) := by
 rcases w with _ | w <;> unfold cllA varA wasX <;> rcases h with ⟨rfl, rfl, rfl⟩ | ⟨rfl, rfl, rfl⟩ | ⟨rfl, rfl, rfl⟩ <;> (
 refine spec_entry tbOk Tryz.func60 rfl Tryz.ntmps60 Tryz.results60 ?_
 refine gg (k := ?_)
 exact ⟨_, rfl, rfl, trivial⟩)
theorem fresh_vc (h : AtO a a' q) (vc z' : Nat) (d' : List UInt8) : Spec Tryz.prog 62 [.ref 0 vc 79 0 0, .bs z' d'] [⟨vc, .obj (cllA nm g 0 a (.bs z d) (wasX w) v is 0)⟩] (pms (.agg (varA (.bs z' d') (plV nm g a' d'))) [⟨vc, .obj (cllA nm g 0 a (.bs z d) (wasX w) v is 0)⟩] []) := by
 rcases w with _ | w <;> unfold cllA varA wasX <;> rcases h with ⟨rfl, rfl, rfl⟩ | ⟨rfl, rfl, rfl⟩ | ⟨rfl, rfl, rfl⟩ <;> (
 refine spec_entry tbOk Tryz.func62 rfl Tryz.ntmps62 Tryz.results62 ?_
 refine gg (k := ?_)
 refine draw_of (p := 1) tbOk hm [0, 1, 3, 7, 0, 16, 48, 112, 0, 256, 768, 1792, 3840, 0, 16383, 32767] [⟨0, false, false, []⟩, ⟨1, true, false, [7, 8, 9, 10, 11, 12, 13, 14, 15, 16, 17, 18, 19]⟩, ⟨2, true, false, [8, 9, 10, 11, 12, 13, 14, 15, 16, 17, 18, 19]⟩, ⟨3, true, false, [9, 10, 11, 12, 13, 14, 15, 16, 17, 18, 19]⟩, ⟨4, false, false, []⟩, ⟨5, true, false, [5, 6, 7, 8, 11, 12, 13, 14, 15, 16, 17, 18, 19]⟩, ⟨6, true, false, [5, 6, 7, 8, 12, 13, 14, 15, 16, 17, 18, 19]⟩, ⟨7, true, false, [5, 6, 7, 8, 13, 14, 15, 16, 17, 18, 19]⟩, ⟨8, false, false, []⟩, ⟨9, true, false, [5, 6, 7, 8, 9, 10, 11, 12, 15, 16, 17, 18, 19]⟩, ⟨10, true, false, [5, 6, 7, 8, 9, 10, 11, 12, 16, 17, 18, 19]⟩, ⟨11, true, false, [5, 6, 7, 8, 9, 10, 11, 12, 17, 18, 19]⟩, ⟨12, false, false, []⟩, ⟨13, false, false, []⟩, ⟨14, true, false, []⟩, ⟨15, true, true, []⟩] (by kernel_rfl) ?_
 refine gg (k := ?_)
 exact ⟨_, rfl, rfl, trivial⟩)
theorem answers_vc (h : AtO a a' q) (hw : is = true → v.at_ = a') (s : FlS) (vv vk vs va vb v0 v1 vc : Nat) : Spec Tryz.prog 25 [.ref 0 vv 1 0 0, .ref 7 vc 79 0 0] [⟨vv, .obj [.ref 1 vk 1 0 0]⟩, ⟨vk, .obj [.ref 2 vs 3 0 0]⟩, ⟨vs, .obj [.ref 5 v0 6 0 0, .ref 3 va 3 0 0, .ref 4 vb 3 0 0]⟩, ⟨va, .obj [.ref 5 v0 6 0 0, .val (.int .i64 ((0 : Nat) : Int)), .val (.int .i64 ((1 : Nat) : Int))]⟩, ⟨vb, .obj [.ref 5 v0 6 0 0, .val (.int .i64 ((1 : Nat) : Int)), .val (.int .i64 ((1 : Nat) : Int))]⟩, ⟨v0, .obj [.own 6 v1 1 0 s.l.length, .val (.int .i64 (s.k : Int)), .val (.int .i64 s.ar), .val (.int .i64 s.pt), .val (.bool s.dd), .val (.int .i64 s.wr)]⟩, ⟨v1, .bytes s.l⟩, ⟨vc, .obj (cllA nm g 0 a (.bs z d) (wasX w) v is 0)⟩] (pms (.mth 43 [.ref 0 vv 1 0 0]) [⟨vv, .obj [.ref 1 vk 1 0 0]⟩, ⟨vk, .obj [.ref 2 vs 3 0 0]⟩, ⟨vs, .obj [.ref 5 v0 6 0 0, .ref 3 va 3 0 0, .ref 4 vb 3 0 0]⟩, ⟨va, .obj [.ref 5 v0 6 0 0, .val (.int .i64 ((0 : Nat) : Int)), .val (.int .i64 ((1 : Nat) : Int))]⟩, ⟨vb, .obj [.ref 5 v0 6 0 0, .val (.int .i64 ((1 : Nat) : Int)), .val (.int .i64 ((1 : Nat) : Int))]⟩, ⟨v0, .obj [.own 6 v1 1 0 s.l.length, .val (.int .i64 (s.k : Int)), .val (.int .i64 s.ar), .val (.int .i64 s.pt), .val (.bool s.dd), .val (.int .i64 s.wr)]⟩, ⟨v1, .bytes s.l⟩, ⟨vc, .obj (cllA nm g 0 a (.bs z d) (wasX w) v is 0)⟩] []) := by
 obtain ⟨nm', g', at', t', ow', d'⟩ := v
 cases is with
 | true =>
  obtain rfl : at' = a' := hw rfl
  rcases w with _ | w <;> unfold cllA varA wasX <;> rcases h with ⟨rfl, rfl, rfl⟩ | ⟨rfl, rfl, rfl⟩ | ⟨rfl, rfl, rfl⟩ <;> (
  refine spec_entry tbOk Tryz.func25 rfl Tryz.ntmps25 Tryz.results25 ?_
  refine gg (k := ?_)
  refine draw_of (p := 8) tbOk hm [0, 1, 3, 7, 15, 31, 63, 127, 255, 511, 31, 1055, 3103, 7199, 15391, 32767, 65535, 131071] [⟨0, false, false, []⟩, ⟨1, true, false, [16, 17, 18, 19, 20, 21, 22, 23, 24, 25, 26, 27, 28, 29, 30, 13]⟩, ⟨2, true, false, [17, 18, 19, 20, 21, 22, 23, 24, 25, 26, 27, 28, 29, 30, 13]⟩, ⟨3, true, false, [18, 19, 20, 21, 22, 23, 24, 25, 26, 27, 28, 29, 30, 13]⟩, ⟨4, false, false, []⟩, ⟨5, false, false, []⟩, ⟨6, true, false, [21, 22, 23, 24, 25, 26, 27, 28, 29, 30, 13]⟩, ⟨7, true, false, [22, 23, 24, 25, 26, 27, 28, 29, 30, 13]⟩, ⟨8, true, false, [23, 24, 25, 26, 27, 28, 29, 30, 13]⟩, ⟨9, true, false, [24, 25, 26, 27, 28, 29, 30, 13]⟩, ⟨10, false, false, []⟩, ⟨11, true, false, [19, 20, 21, 22, 23, 26, 27, 28, 29, 30, 13]⟩, ⟨12, true, false, [19, 20, 21, 22, 23, 27, 28, 29, 30, 13]⟩, ⟨13, true, false, [19, 20, 21, 22, 23, 28, 29, 30, 13]⟩, ⟨14, false, false, []⟩, ⟨15, false, false, []⟩, ⟨16, false, false, []⟩, ⟨17, false, false, []⟩] (by kernel_rfl) ?_
  refine gg (k := ?_)
  refine ⟨fun h => absurd h (by decide), fun _ => ?_⟩
  refine gg (k := ?_)
  exact ⟨_, rfl, rfl, trivial⟩)
 | false =>
  rcases w with _ | w <;> unfold cllA varA wasX <;> rcases h with ⟨rfl, rfl, rfl⟩ | ⟨rfl, rfl, rfl⟩ | ⟨rfl, rfl, rfl⟩ <;> (
  refine spec_entry tbOk Tryz.func25 rfl Tryz.ntmps25 Tryz.results25 ?_
  refine gg (k := ?_)
  refine draw_of (p := 8) tbOk hm [0, 1, 3, 7, 15, 31, 63, 127, 255, 511, 31, 1055, 3103, 7199, 15391, 32767, 65535, 131071] [⟨0, false, false, []⟩, ⟨1, true, false, [16, 17, 18, 19, 20, 21, 22, 23, 24, 25, 26, 27, 28, 29, 30, 13]⟩, ⟨2, true, false, [17, 18, 19, 20, 21, 22, 23, 24, 25, 26, 27, 28, 29, 30, 13]⟩, ⟨3, true, false, [18, 19, 20, 21, 22, 23, 24, 25, 26, 27, 28, 29, 30, 13]⟩, ⟨4, false, false, []⟩, ⟨5, false, false, []⟩, ⟨6, true, false, [21, 22, 23, 24, 25, 26, 27, 28, 29, 30, 13]⟩, ⟨7, true, false, [22, 23, 24, 25, 26, 27, 28, 29, 30, 13]⟩, ⟨8, true, false, [23, 24, 25, 26, 27, 28, 29, 30, 13]⟩, ⟨9, true, false, [24, 25, 26, 27, 28, 29, 30, 13]⟩, ⟨10, false, false, []⟩, ⟨11, true, false, [19, 20, 21, 22, 23, 26, 27, 28, 29, 30, 13]⟩, ⟨12, true, false, [19, 20, 21, 22, 23, 27, 28, 29, 30, 13]⟩, ⟨13, true, false, [19, 20, 21, 22, 23, 28, 29, 30, 13]⟩, ⟨14, false, false, []⟩, ⟨15, false, false, []⟩, ⟨16, false, false, []⟩, ⟨17, false, false, []⟩] (by kernel_rfl) ?_
  refine gg (k := ?_)
  exact ⟨_, rfl, rfl, trivial⟩)
theorem vplain_put {s : FlS} {y i : Nat} {M : List RK} (hP : PB s y i M) (hi : i ≤ 1000) (h : AtO a a' false) (hd : 0 < d.length) (hv : (plV nm g a' d).Ok) (vv vk vs va vb v0 v1 vc : Nat) : Spec Tryz.prog 43 [.ref 0 vv 1 0 0, .ref 7 vc 79 0 0] [⟨vv, .obj [.ref 1 vk 1 0 0]⟩, ⟨vk, .obj [.ref 2 vs 3 0 0]⟩, ⟨vs, .obj [.ref 5 v0 6 0 0, .ref 3 va 3 0 0, .ref 4 vb 3 0 0]⟩, ⟨va, .obj [.ref 5 v0 6 0 0, .val (.int .i64 ((0 : Nat) : Int)), .val (.int .i64 ((1 : Nat) : Int))]⟩, ⟨vb, .obj [.ref 5 v0 6 0 0, .val (.int .i64 ((1 : Nat) : Int)), .val (.int .i64 ((1 : Nat) : Int))]⟩, ⟨v0, .obj [.own 6 v1 1 0 s.l.length, .val (.int .i64 (s.k : Int)), .val (.int .i64 s.ar), .val (.int .i64 s.pt), .val (.bool s.dd), .val (.int .i64 s.wr)]⟩, ⟨v1, .bytes s.l⟩, ⟨vc, .obj (cllA nm g 0 a (.bs z d) (wasX w) v is 0)⟩] (pms (.val (.int .i64 (kputP s (plV nm g a' d)).1)) [⟨vv, .obj [.ref 1 vk 1 0 0]⟩, ⟨vk, .obj [.ref 2 vs 3 0 0]⟩, ⟨vs, .obj [.ref 5 v0 6 0 0, .ref 3 va 3 0 0, .ref 4 vb 3 0 0]⟩, ⟨va, .obj [.ref 5 v0 6 0 0, .val (.int .i64 ((0 : Nat) : Int)), .val (.int .i64 ((1 : Nat) : Int))]⟩, ⟨vb, .obj [.ref 5 v0 6 0 0, .val (.int .i64 ((1 : Nat) : Int)), .val (.int .i64 ((1 : Nat) : Int))]⟩, ⟨v0, .obj [.own 6 v1 1 0 (kputP s (plV nm g a' d)).2.l.length, .val (.int .i64 ((kputP s (plV nm g a' d)).2.k : Int)), .val (.int .i64 (kputP s (plV nm g a' d)).2.ar), .val (.int .i64 (kputP s (plV nm g a' d)).2.pt), .val (.bool (kputP s (plV nm g a' d)).2.dd), .val (.int .i64 (kputP s (plV nm g a' d)).2.wr)]⟩, ⟨v1, .bytes (kputP s (plV nm g a' d)).2.l⟩, ⟨vc, .obj (cllA nm g 0 a (.bs z d) (wasX w) v is 0)⟩] []) := by
 have hK := kput_vc s hP.go (by omega) (lie0 hP.hy) (lie1 hP.hy) hP.live (plV nm g a' d) hv z vk vs va vb v0 v1
 have hM := more_vc (nm := nm) (g := g) (z := z) (d := d) (w := w) (v := v) (is := is) h vc
 have hF := fresh_vc (nm := nm) (g := g) (z := z) (d := d) (w := w) (v := v) (is := is) h vc z d
 generalize kputP s (plV nm g a' d) = R at hK
 clear hP
 rcases w with _ | w <;> (
 unfold cllA varA wasX at hM hF ⊢
 unfold varA at hK
 refine spec_entry tbOk Tryz.func43 rfl Tryz.ntmps43 Tryz.results43 ?_
 refine gg (k := ?_)
 refine cmks (hM) Tryz.call60 1 [7] [0] [] ?_
 refine gg (k := ?_)
 refine cmks (hM) Tryz.call60 1 [7] [0] [] ?_
 refine gg (k := ?_)
 refine draw_of (p := 8) tbOk hm [0, 1, 3, 7, 0, 0, 32, 96, 224, 496, 1023, 2047] [⟨0, false, false, []⟩, ⟨1, true, false, [36, 37, 38, 39, 40, 41, 42, 43, 44, 4]⟩, ⟨2, true, false, [37, 38, 39, 40, 41, 42, 43, 44, 4]⟩, ⟨3, true, false, [38, 39, 40, 41, 42, 43, 44, 4]⟩, ⟨4, false, false, []⟩, ⟨5, false, false, []⟩, ⟨6, true, false, [34, 35, 36, 37, 38, 41, 42, 43, 44, 4]⟩, ⟨7, true, false, [34, 35, 36, 37, 38, 42, 43, 44, 4]⟩, ⟨8, true, false, [34, 35, 36, 37, 38, 43, 44, 4]⟩, ⟨9, true, false, [34, 35, 36, 37, 44, 4]⟩, ⟨10, true, true, [4]⟩, ⟨11, false, false, []⟩] (by kernel_rfl) ?_
 refine gg (k := ?_)
 refine cmks (hF) Tryz.call62 1 [7] [0] [] ?_
 refine gg (k := ?_)
 refine cmks (hK) Tryz.call61 6 [1, 2, 3, 4, 5, 6] [0, 0, 0, 0, 0, 0] [] ?_
 ((conv => whnf); refine And.intro ⟨.inr (fun h => nomatch h), .inr (fun h => nomatch h), .inr (fun h => nomatch h), .inr (fun h => nomatch h), .inr (fun h => nomatch h), .inr (fun h => nomatch h), trivial⟩ ?_)
 refine gg (k := ?_)
 exact ⟨_, rfl, rfl, trivial⟩)
theorem vplain_none {s : FlS} (h : AtO a a' true) (hd : d = []) (vv vk vs va vb v0 v1 vc : Nat) : Spec Tryz.prog 43 [.ref 0 vv 1 0 0, .ref 7 vc 79 0 0] [⟨vv, .obj [.ref 1 vk 1 0 0]⟩, ⟨vk, .obj [.ref 2 vs 3 0 0]⟩, ⟨vs, .obj [.ref 5 v0 6 0 0, .ref 3 va 3 0 0, .ref 4 vb 3 0 0]⟩, ⟨va, .obj [.ref 5 v0 6 0 0, .val (.int .i64 ((0 : Nat) : Int)), .val (.int .i64 ((1 : Nat) : Int))]⟩, ⟨vb, .obj [.ref 5 v0 6 0 0, .val (.int .i64 ((1 : Nat) : Int)), .val (.int .i64 ((1 : Nat) : Int))]⟩, ⟨v0, .obj [.own 6 v1 1 0 s.l.length, .val (.int .i64 (s.k : Int)), .val (.int .i64 s.ar), .val (.int .i64 s.pt), .val (.bool s.dd), .val (.int .i64 s.wr)]⟩, ⟨v1, .bytes s.l⟩, ⟨vc, .obj (cllA nm g 0 a (.bs z d) (wasX w) v is 0)⟩] (pms (.val (.int .i64 0)) [⟨vv, .obj [.ref 1 vk 1 0 0]⟩, ⟨vk, .obj [.ref 2 vs 3 0 0]⟩, ⟨vs, .obj [.ref 5 v0 6 0 0, .ref 3 va 3 0 0, .ref 4 vb 3 0 0]⟩, ⟨va, .obj [.ref 5 v0 6 0 0, .val (.int .i64 ((0 : Nat) : Int)), .val (.int .i64 ((1 : Nat) : Int))]⟩, ⟨vb, .obj [.ref 5 v0 6 0 0, .val (.int .i64 ((1 : Nat) : Int)), .val (.int .i64 ((1 : Nat) : Int))]⟩, ⟨v0, .obj [.own 6 v1 1 0 s.l.length, .val (.int .i64 (s.k : Int)), .val (.int .i64 s.ar), .val (.int .i64 s.pt), .val (.bool s.dd), .val (.int .i64 s.wr)]⟩, ⟨v1, .bytes s.l⟩, ⟨vc, .obj (cllA nm g 0 a (.bs z d) (wasX w) v is 0)⟩] []) := by
 have hM := more_vc (nm := nm) (g := g) (z := z) (d := d) (w := w) (v := v) (is := is) h vc
 subst hd
 rcases w with _ | w <;> (
 unfold cllA varA wasX at hM ⊢
 refine spec_entry tbOk Tryz.func43 rfl Tryz.ntmps43 Tryz.results43 ?_
 refine gg (k := ?_)
 refine cmks (hM) Tryz.call60 1 [7] [0] [] ?_
 refine gg (k := ?_)
 refine cmks (hM) Tryz.call60 1 [7] [0] [] ?_
 refine gg (k := ?_)
 exact ⟨_, rfl, rfl, trivial⟩)
def catW (x : AV) (d : List UInt8) (z : Nat) : Nat → List AV
 | 0 => [x]
 | 1 => [.bs z d]
 | _ => []
theorem catW_on {P : Nat → Prop} (w : Option (List UInt8)) (d : List UInt8) (z : Nat) : ∀ i, onAs P (catW (wasX w) d z i)
 | 0 => by cases w <;> exact ⟨trivial, trivial⟩
 | 1 => ⟨trivial, trivial⟩
 | _ + 2 => trivial
theorem concat2 (w : Option (List UInt8)) (d : List UInt8) (hl : (w.getD []).length + d.length ≤ 65484) (z v0 : Nat) : Spec Tryz.prog 63 [.own 0 v0 1 0 2] [⟨v0, .row 1 (catW (wasX w) d z) 0 (List.range 2)⟩]
    (pms (.bs 0 (w.getD [] ++ d)) [⟨v0, .row 1 (catW (wasX w) d z) 0 (List.range 2)⟩] []) := by
 have e : [w.getD [], d].flatten = w.getD [] ++ d := by simp
 have h := spec_ro (concat_vc [w.getD [], d] (by show 2 ≤ 1000; decide) (by rw [e, List.length_append]; omega) 0) trivial ⟨trivial, trivial⟩ (rows := [⟨v0, .row 1 (catW (wasX w) d z) 0 (List.range 2)⟩]) (args := [.own 0 v0 1 0 2]) (asL_cons (as_sl (l0 := List.range 2) rfl rfl rfl fun i x l hi hli => by
  match i with
  | 0 => cases hi; cases hli; cases w with
   | none => exact ⟨_, rfl, as_nil⟩
   | some w => exact ⟨_, rfl, as_bs⟩
  | 1 => cases hi; cases hli; exact ⟨_, rfl, as_bs⟩
  | i + 2 => simp at hli) asL_nil)
 rw [e] at h
 exact spec_frz h (by simp [geM, shM]) (AF.own rfl rfl) ⟨rfl, BF.same, trivial⟩
theorem vplain_more {s : FlS} {y i : Nat} {M : List RK} (hP : PB s y i M) (hi : i ≤ 1000) (h : AtO a a' true) (hd : 0 < d.length) (hl : (w.getD []).length + d.length ≤ 65484) (hv : (plV nm g a' (w.getD [] ++ d)).Ok) (vv vk vs va vb v0 v1 vc : Nat) : Spec Tryz.prog 43 [.ref 0 vv 1 0 0, .ref 7 vc 79 0 0] [⟨vv, .obj [.ref 1 vk 1 0 0]⟩, ⟨vk, .obj [.ref 2 vs 3 0 0]⟩, ⟨vs, .obj [.ref 5 v0 6 0 0, .ref 3 va 3 0 0, .ref 4 vb 3 0 0]⟩, ⟨va, .obj [.ref 5 v0 6 0 0, .val (.int .i64 ((0 : Nat) : Int)), .val (.int .i64 ((1 : Nat) : Int))]⟩, ⟨vb, .obj [.ref 5 v0 6 0 0, .val (.int .i64 ((1 : Nat) : Int)), .val (.int .i64 ((1 : Nat) : Int))]⟩, ⟨v0, .obj [.own 6 v1 1 0 s.l.length, .val (.int .i64 (s.k : Int)), .val (.int .i64 s.ar), .val (.int .i64 s.pt), .val (.bool s.dd), .val (.int .i64 s.wr)]⟩, ⟨v1, .bytes s.l⟩, ⟨vc, .obj (cllA nm g 0 a (.bs z d) (wasX w) v is 0)⟩] (pms (.val (.int .i64 (kputP s (plV nm g a' (w.getD [] ++ d))).1)) [⟨vv, .obj [.ref 1 vk 1 0 0]⟩, ⟨vk, .obj [.ref 2 vs 3 0 0]⟩, ⟨vs, .obj [.ref 5 v0 6 0 0, .ref 3 va 3 0 0, .ref 4 vb 3 0 0]⟩, ⟨va, .obj [.ref 5 v0 6 0 0, .val (.int .i64 ((0 : Nat) : Int)), .val (.int .i64 ((1 : Nat) : Int))]⟩, ⟨vb, .obj [.ref 5 v0 6 0 0, .val (.int .i64 ((1 : Nat) : Int)), .val (.int .i64 ((1 : Nat) : Int))]⟩, ⟨v0, .obj [.own 6 v1 1 0 (kputP s (plV nm g a' (w.getD [] ++ d))).2.l.length, .val (.int .i64 ((kputP s (plV nm g a' (w.getD [] ++ d))).2.k : Int)), .val (.int .i64 (kputP s (plV nm g a' (w.getD [] ++ d))).2.ar), .val (.int .i64 (kputP s (plV nm g a' (w.getD [] ++ d))).2.pt), .val (.bool (kputP s (plV nm g a' (w.getD [] ++ d))).2.dd), .val (.int .i64 (kputP s (plV nm g a' (w.getD [] ++ d))).2.wr)]⟩, ⟨v1, .bytes (kputP s (plV nm g a' (w.getD [] ++ d))).2.l⟩, ⟨vc, .obj (cllA nm g 0 a (.bs z d) (wasX w) v is 0)⟩] []) := by
 have hK := kput_vc s hP.go (by omega) (lie0 hP.hy) (lie1 hP.hy) hP.live (plV nm g a' (w.getD [] ++ d)) hv 0 vk vs va vb v0 v1
 have hM := more_vc (nm := nm) (g := g) (z := z) (d := d) (w := w) (v := v) (is := is) h vc
 have hF := fresh_vc (nm := nm) (g := g) (z := z) (d := d) (w := w) (v := v) (is := is) h vc 0 (w.getD [] ++ d)
 have hC := concat2 w d hl z 1
 generalize kputP s (plV nm g a' (w.getD [] ++ d)) = R at hK
 clear hP
 rcases w with _ | w <;> (
 unfold cllA varA wasX at hM hF ⊢
 unfold varA at hK
 refine spec_entry tbOk Tryz.func43 rfl Tryz.ntmps43 Tryz.results43 ?_
 refine gg (k := ?_)
 refine cmks (hM) Tryz.call60 1 [7] [0] [] ?_
 refine gg (k := ?_)
 refine cmks (hM) Tryz.call60 1 [7] [0] [] ?_
 refine gg (k := ?_)
 refine draw_of (p := 8) tbOk hm [0, 1, 3, 7, 0, 0, 32, 96, 224, 480, 0, 1024, 3072, 7168, 16352, 32736, 65520, 131071, 262143] [⟨0, false, false, []⟩, ⟨1, true, false, [54, 55, 56, 57, 58, 59, 60, 61, 62, 63, 64, 65, 66, 67, 68, 69, 4]⟩, ⟨2, true, false, [55, 56, 57, 58, 59, 60, 61, 62, 63, 64, 65, 66, 67, 68, 69, 4]⟩, ⟨3, true, false, [56, 57, 58, 59, 60, 61, 62, 63, 64, 65, 66, 67, 68, 69, 4]⟩, ⟨4, false, false, []⟩, ⟨5, false, false, []⟩, ⟨6, true, false, [52, 53, 54, 55, 56, 59, 60, 61, 62, 63, 64, 65, 66, 67, 68, 69, 4]⟩, ⟨7, true, false, [52, 53, 54, 55, 56, 60, 61, 62, 63, 64, 65, 66, 67, 68, 69, 4]⟩, ⟨8, true, false, [52, 53, 54, 55, 56, 61, 62, 63, 64, 65, 66, 67, 68, 69, 4]⟩, ⟨9, true, false, [52, 53, 54, 55, 56, 62, 63, 64, 65, 66, 67, 68, 69, 4]⟩, ⟨10, false, false, []⟩, ⟨11, true, false, [52, 53, 54, 55, 56, 57, 58, 59, 60, 61, 64, 65, 66, 67, 68, 69, 4]⟩, ⟨12, true, false, [52, 53, 54, 55, 56, 57, 58, 59, 60, 61, 65, 66, 67, 68, 69, 4]⟩, ⟨13, true, false, [52, 53, 54, 55, 56, 57, 58, 59, 60, 61, 66, 67, 68, 69, 4]⟩, ⟨14, true, false, [52, 53, 54, 55, 56, 67, 68, 69, 4]⟩, ⟨15, true, false, [52, 53, 54, 55, 56, 68, 69, 4]⟩, ⟨16, true, false, [52, 53, 54, 55, 69, 4]⟩, ⟨17, true, true, [4]⟩, ⟨18, false, false, []⟩] (by kernel_rfl) ?_
 refine gg (k := ?_)
 refine cmksW (hC) Tryz.call63 (hr2 := ⟨catW_on _ _ _, trivial⟩) 1 [74] [0] [] ?_ ?_
 ·exact ⟨⟨catW_on _ _ _, _, rfl, WeakE.row 1 1 rfl⟩, trivial⟩
 conv => whnf
 refine And.intro ⟨.inr ?_, trivial⟩ ?_
 ·refine congrArg (fun F => some (Ent.mk 1 (Bd.row 1 F 0 (List.range 2)))) (funext fun i => ?_)
  match i with
  | 0 => rfl
  | 1 => rfl
  | n + 2 => simp only [Nat.mul_one, takeL, dropL, List.map_cons, List.map_nil, List.nil_append, List.cons_append, List.append_nil, List.length_cons, List.length_nil, Nat.reduceAdd, renAs, catW, dropL_eq, takeL_eq]; exact (congrArg (List.take 1) (List.drop_of_length_le (Nat.le_add_left 2 n))).trans rfl
 refine gg (k := ?_)
 refine cmks (hF) Tryz.call62 1 [7] [0] [] ?_
 refine gg (k := ?_)
 refine cmks (hK) Tryz.call61 6 [1, 2, 3, 4, 5, 6] [0, 0, 0, 0, 0, 0] [] ?_
 ((conv => whnf); refine And.intro ⟨.inr (fun h => nomatch h), .inr (fun h => nomatch h), .inr (fun h => nomatch h), .inr (fun h => nomatch h), .inr (fun h => nomatch h), .inr (fun h => nomatch h), trivial⟩ ?_)
 refine gg (k := ?_)
 exact ⟨_, rfl, rfl, trivial⟩)
end
end Go.Proofs.YtmjpbmcbcppkfaaGreatDoor
