/- Walks of lintelref09: the map. Conditions: none. -/
import Derived.Test.YtpbpiehcchannaaGreatDoorJGf
import Derived.Test.YtpbpiehcchannaaGreatDoorJGa
import Derived.Test.YtpbpiehcchannaaGreatDoorJHa
namespace Go.Proofs.YtpbpiehcchannaaGreatDoor
open Go.RowKit
set_option linter.unusedVariables false
set_option linter.unusedSimpArgs false
set_option maxRecDepth 100000
set_option maxHeartbeats 1500000
def atI : List (List UInt8) → List UInt8 → Nat
 | [], _ => 0
 | k :: r, key => if k = key then 0 else 1 + atI r key
theorem atI_le : ∀ (ks : List (List UInt8)) (key : List UInt8), atI ks key ≤ ks.length
 | [], _ => Nat.le_refl _
 | k :: r, key => by
  unfold atI
  have := atI_le r key
  rw [List.length_cons]
  split <;> omega
theorem atI_yes : ∀ (ks : List (List UInt8)) (key : List UInt8) (i : Nat), i ≤ atI ks key → i < ks.length → ks.getD i [] = key → atI ks key = i
 | [], _, i, _, h, _ => absurd h (Nat.not_lt_zero _)
 | k :: r, key, 0, h1, h2, h3 => by
  obtain rfl : k = key := by simpa using h3
  simp [atI]
 | k :: r, key, i + 1, h1, h2, h3 => by
  unfold atI at h1 ⊢
  split at h1
  ·omega
  ·rename_i hk
   rw [if_neg hk, atI_yes r key i (by omega) (by simpa using h2) (by simpa using h3)]
   omega
theorem atI_no : ∀ (ks : List (List UInt8)) (key : List UInt8) (i : Nat), i ≤ atI ks key → i < ks.length → ks.getD i [] ≠ key → i + 1 ≤ atI ks key
 | [], _, i, _, h, _ => absurd h (Nat.not_lt_zero _)
 | k :: r, key, 0, h1, h2, h3 => by
  have hk : k ≠ key := by simpa using h3
  unfold atI
  rw [if_neg hk]; omega
 | k :: r, key, i + 1, h1, h2, h3 => by
  unfold atI at h1 ⊢
  split at h1
  ·omega
  ·rename_i hk
   rw [if_neg hk]
   have := atI_no r key i (by omega) (by simpa using h2) (by simpa using h3)
   omega
def atV (ks : List (List UInt8)) (key : List UInt8) : Int := if atI ks key < ks.length then (atI ks key : Int) else -1
theorem need8_vc (a b : Nat) (ha : a ≤ 140737488355328) (hb : b ≤ 140737488355328) : Spec Tryz.prog 76 [.val (.int .i64 (a : Int)), .val (.int .i64 (b : Int))] [] (pms (.val (.int .i64 ((12 + a + b : Nat) : Int))) [] []) := by
 refine spec_entry tbOk Tryz.func76 rfl Tryz.ntmps76 Tryz.results76 ?_
 refine gg (k := ?_)
 rw [show (12 : Int) + (a : Int) + (b : Int) = ((12 + a + b : Nat) : Int) by omega]
 exact ⟨_, rfl, rfl, trivial⟩
theorem at9_vc (z : Nat) (ks vs : List (List UInt8)) (key : List UInt8) (room : Int) (hl : ks.length ≤ 4294967296) (vm : Nat) : Spec Tryz.prog 29 [.ref 0 vm 3 0 0, .bs z key] [⟨vm, .obj [.sl 0 1 (fun k : List UInt8 => [AV.bs 0 k]) [] ks, .sl 0 1 (fun k : List UInt8 => [AV.bs 0 k]) [] vs, .val (.int .i64 room)]⟩] (pms (.val (.int .i64 (atV ks key))) [⟨vm, .obj [.sl 0 1 (fun k : List UInt8 => [AV.bs 0 k]) [] ks, .sl 0 1 (fun k : List UInt8 => [AV.bs 0 k]) [] vs, .val (.int .i64 room)]⟩] []) := by
 refine spec_entry tbOk Tryz.func29 rfl Tryz.ntmps29 Tryz.results29 ?_
 refine gg (k := ?_)
 (refine sts (k := ?_))
 conv => whnf
 refine loop_at (fun i : Nat => i ≤ atI ks key) (fun i => ks.length - i) 1 [4, 5, 6, 7, 8, 9, 10, 11, 12, 13, 14, 15, 16, 17, 18, 19, 20, 21, 22, 23, 24, 25, 26] (fun i => [(5, .val (.int .i64 (i : Int)))]) (fun i => []) 0 (Nat.zero_le _) ?_ ?_ ?_
 ·exact no_implicit_lambda% ten
 ·exact no_implicit_lambda% hen
 ·rintro i v i1
  have i2 := atI_le ks key
  refine glp (k := ?_)
  refine gg (k := ?_)
  refine ⟨fun h => ?_, fun h => ?_⟩
  ·have hlt : i < ks.length := by have := of_decide_eq_true h; omega
   refine gg (k := ?_)
   refine draw_of (p := 1) tbOk hm [0, 1, 3, 7, 0, 31, 63, 127, 0, 256, 1023] [⟨0, false, false, []⟩, ⟨1, true, false, [17, 18, 19, 20, 21, 22, 23, 24, 25]⟩, ⟨2, true, false, [18, 19, 20, 21, 22, 23, 24, 25]⟩, ⟨3, true, false, [19, 20, 21, 22, 23, 24, 25]⟩, ⟨4, false, false, []⟩, ⟨5, true, false, [21, 22, 23, 24, 25]⟩, ⟨6, true, false, [22, 23, 24, 25]⟩, ⟨7, true, false, [23, 24, 25]⟩, ⟨8, false, false, []⟩, ⟨9, true, false, [15, 16, 17, 18, 19, 20, 21, 22, 25]⟩, ⟨10, false, false, []⟩] (by kernel_rfl) ?_
   refine gg (k := ?_)
   simp only [Int.toNat_natCast, Nat.zero_add]
   refine gg (k := ?_)
   rw [strOf_eq]
   refine ⟨fun h' => ?_, fun h' => ?_⟩
   ·have hk := atI_yes ks key i i1 hlt (of_decide_eq_true h')
    have hv : atV ks key = (i : Int) := by unfold atV; rw [hk, if_pos hlt]
    refine gg (k := ?_)
    rw [hv]
    exact ⟨_, rfl, rfl, trivial⟩
   ·have hk := atI_no ks key i i1 hlt (of_decide_eq_false h')
    refine gg (k := ?_)
    refine back_at (i + 1) hk (by show ks.length - (i + 1) < ks.length - i; omega) ?_ ?_
    ·exact no_implicit_lambda% ten
    ·exact no_implicit_lambda% hen
  ·have hi : i = ks.length := by have := of_decide_eq_false h; omega
   have hv : atV ks key = -1 := by unfold atV; rw [if_neg (by omega)]
   refine gg (k := ?_)
   rw [hv]
   exact ⟨_, rfl, rfl, trivial⟩
def usedM : List (List UInt8) → List (List UInt8) → Nat → Nat
 | ks, vs, 0 => 0
 | ks, vs, n + 1 => usedM ks vs n + (12 + (ks.getD n []).length + (vs.getD n []).length)
theorem usedM_le {ks vs : List (List UInt8)} (hb : (∀ k ∈ ks, k.length ≤ 4294967296) ∧ (∀ v ∈ vs, v.length ≤ 4294967296)) (hv : vs.length = ks.length) : ∀ n, n ≤ ks.length → usedM ks vs n ≤ n * 8589934604 := by
 intro n
 induction n with
 | zero => intro _; simp [usedM]
 | succ n ih =>
  intro hn
  have h1 := ih (by omega)
  have h2 := hb.1 (ks.getD n []) (by rw [List.getD_eq_getElem?_getD, List.getElem?_eq_getElem (by omega)]; exact List.getElem_mem _)
  have h3 := hb.2 (vs.getD n []) (by rw [List.getD_eq_getElem?_getD, List.getElem?_eq_getElem (by omega)]; exact List.getElem_mem _)
  unfold usedM
  omega
theorem used9_vc (ks vs : List (List UInt8)) (room : Int) (hl : ks.length ≤ 4096) (hv : vs.length = ks.length) (hb : (∀ k ∈ ks, k.length ≤ 4294967296) ∧ (∀ v ∈ vs, v.length ≤ 4294967296)) (vm : Nat) : Spec Tryz.prog 75 [.ref 0 vm 3 0 0] [⟨vm, .obj [.sl 0 1 (fun k : List UInt8 => [AV.bs 0 k]) [] ks, .sl 0 1 (fun k : List UInt8 => [AV.bs 0 k]) [] vs, .val (.int .i64 room)]⟩] (pms (.val (.int .i64 (usedM ks vs ks.length : Int))) [⟨vm, .obj [.sl 0 1 (fun k : List UInt8 => [AV.bs 0 k]) [] ks, .sl 0 1 (fun k : List UInt8 => [AV.bs 0 k]) [] vs, .val (.int .i64 room)]⟩] []) := by
 have hu := usedM_le hb hv
 refine spec_entry tbOk Tryz.func75 rfl Tryz.ntmps75 Tryz.results75 ?_
 refine gg (k := ?_)
 (refine sts (k := ?_))
 conv => whnf
 refine loop_at (fun i : Nat => i ≤ ks.length) (fun i => ks.length - i) 1 [3, 4, 5, 6, 7, 8, 9, 10, 11, 12, 13, 14, 15, 16, 17, 18, 19, 20, 21, 22, 23, 24, 25, 26, 27, 28, 29, 30, 31, 32] (fun i => [(3, .val (.int .i64 (usedM ks vs i : Int))), (4, .val (.int .i64 (i : Int)))]) (fun i => []) 0 (Nat.zero_le _) ?_ ?_ ?_
 ·exact no_implicit_lambda% ten
 ·exact no_implicit_lambda% hen
 ·rintro i v i1
  have hui := hu i i1
  refine glp (k := ?_)
  refine gg (k := ?_)
  refine ⟨fun h => ?_, fun h => ?_⟩
  ·have hlt : i < ks.length := by have := of_decide_eq_true h; omega
   have h2 := hb.1 (ks.getD i []) (by rw [List.getD_eq_getElem?_getD, List.getElem?_eq_getElem (by omega)]; exact List.getElem_mem _)
   have h3 := hb.2 (vs.getD i []) (by rw [List.getD_eq_getElem?_getD, List.getElem?_eq_getElem (by omega)]; exact List.getElem_mem _)
   refine gg (k := ?_)
   refine draw_of (p := 1) tbOk hm [0, 0, 2, 6, 14, 0, 62, 126, 254, 0, 512, 1536, 3584, 0, 15872, 32256, 65024, 131070, 262143, 524287] [⟨0, false, false, []⟩, ⟨1, false, false, []⟩, ⟨2, true, false, [14, 17, 18, 19, 20, 21, 22, 23, 24, 25, 26, 27, 28, 29, 30, 31, 32, 3]⟩, ⟨3, true, false, [14, 18, 19, 20, 21, 22, 23, 24, 25, 26, 27, 28, 29, 30, 31, 32, 3]⟩, ⟨4, true, false, [14, 19, 20, 21, 22, 23, 24, 25, 26, 27, 28, 29, 30, 31, 32, 3]⟩, ⟨5, false, false, []⟩, ⟨6, true, false, [14, 21, 22, 23, 24, 25, 26, 27, 28, 29, 30, 31, 32, 3]⟩, ⟨7, true, false, [14, 22, 23, 24, 25, 26, 27, 28, 29, 30, 31, 32, 3]⟩, ⟨8, true, false, [14, 23, 24, 25, 26, 27, 28, 29, 30, 31, 32, 3]⟩, ⟨9, false, false, []⟩, ⟨10, true, false, [14, 15, 16, 17, 18, 19, 20, 21, 22, 25, 26, 27, 28, 29, 30, 31, 32, 3]⟩, ⟨11, true, false, [14, 15, 16, 17, 18, 19, 20, 21, 22, 26, 27, 28, 29, 30, 31, 32, 3]⟩, ⟨12, true, false, [14, 15, 16, 17, 18, 19, 20, 21, 22, 27, 28, 29, 30, 31, 32, 3]⟩, ⟨13, false, false, []⟩, ⟨14, true, false, [14, 15, 16, 17, 18, 19, 20, 21, 22, 29, 30, 31, 32, 3]⟩, ⟨15, true, false, [14, 15, 16, 17, 18, 19, 20, 21, 22, 30, 31, 32, 3]⟩, ⟨16, true, false, [14, 15, 16, 17, 18, 19, 20, 21, 22, 31, 32, 3]⟩, ⟨17, true, true, [14, 32, 3]⟩, ⟨18, false, false, []⟩, ⟨19, false, false, []⟩] (by kernel_rfl) ?_
   refine gg (k := ?_)
   simp only [Int.toNat_natCast]
   refine cmks (need8_vc (ks.getD i []).length (vs.getD i []).length (by omega) (by omega)) Tryz.call76 0 [] [] [] ?_
   refine gg (k := ?_)
   rw [show (usedM ks vs i : Int) + ((12 + (ks.getD i []).length + (vs.getD i []).length : Nat) : Int) = (usedM ks vs (i + 1) : Int) by rw [usedM]; omega]
   refine back_at (i + 1) hlt (by show ks.length - (i + 1) < ks.length - i; omega) ?_ ?_
   ·exact no_implicit_lambda% ten
   ·exact no_implicit_lambda% hen
  ·obtain rfl : i = ks.length := by have := of_decide_eq_false h; omega
   refine gg (k := ?_)
   exact ⟨_, rfl, rfl, trivial⟩
theorem copy9_raw (ks vs : List (List UInt8)) (room : Int) (hl : ks.length ≤ 4096) (hv : vs.length ≤ 4096) (vm : Nat) : Spec Tryz.prog 20 [.ref 0 vm 3 0 0] [⟨vm, .obj [.sl 0 1 (fun k : List UInt8 => [AV.bs 0 k]) [] ks, .sl 0 1 (fun k : List UInt8 => [AV.bs 0 k]) [] vs, .val (.int .i64 room)]⟩] (pms (.ref 21 1 3 0 0) [⟨vm, .obj [.sl 0 1 (fun k : List UInt8 => [AV.bs 0 k]) [] ks, .sl 0 1 (fun k : List UInt8 => [AV.bs 0 k]) [] vs, .val (.int .i64 room)]⟩] [(21, ⟨1, .obj [.own 4 2 1 0 ks.length, .own 10 2 1 0 vs.length, .val (.int .i64 room)]⟩), (4, ⟨2, .row 1 (fun k : List UInt8 => [AV.bs 0 k]) [] ks⟩), (10, ⟨2, .row 1 (fun k : List UInt8 => [AV.bs 0 k]) [] vs⟩)]) := by
 refine spec_entry tbOk Tryz.func20 rfl Tryz.ntmps20 Tryz.results20 ?_
 refine gg (k := ?_)
 refine draw_of (p := 1) tbOk hm [0, 0, 2, 6, 14, 31, 0, 0, 128, 384, 896, 2047, 0, 4096, 12288, 28672, 65535, 131071, 262143] [⟨0, false, false, [3]⟩, ⟨1, false, false, []⟩, ⟨2, false, false, [10000]⟩, ⟨3, false, false, [10000]⟩, ⟨4, false, false, [10000]⟩, ⟨5, true, true, [10000, 9, 10, 11, 12, 13, 14, 15, 16, 17, 18, 19, 20, 2]⟩, ⟨6, false, false, [9]⟩, ⟨7, false, false, []⟩, ⟨8, false, false, [10000]⟩, ⟨9, false, false, [10000]⟩, ⟨10, false, false, [10000]⟩, ⟨11, true, true, [10000, 15, 16, 17, 18, 19, 20, 2]⟩, ⟨12, false, false, []⟩, ⟨13, false, false, [10000]⟩, ⟨14, false, false, [10000]⟩, ⟨15, false, false, [10000]⟩, ⟨16, true, false, [20, 2]⟩, ⟨17, true, false, [2]⟩, ⟨18, false, false, []⟩] (by kernel_rfl) ?_
 refine gg (k := ?_)
 (
 refine ⟨List UInt8, (fun k : List UInt8 => [AV.bs 0 k]), [], ks, ?_⟩
 conv => whnf
 refine And.intro ⟨rfl, fun x hx => ⟨trivial, trivial⟩, rfl, rfl, rfl, rfl, .inr rfl, rfl, by show _ * 24 ≤ _; (try simp only [List.length_append]); omega, by decide⟩ ?_)
 refine gg (k := ?_)
 (
 refine ⟨List UInt8, (fun k : List UInt8 => [AV.bs 0 k]), [], vs, ?_⟩
 conv => whnf
 refine And.intro ⟨rfl, fun x hx => ⟨trivial, trivial⟩, rfl, rfl, rfl, rfl, .inr rfl, rfl, by show _ * 24 ≤ _; (try simp only [List.length_append]); omega, by decide⟩ ?_)
 refine gg (k := ?_)
 exact ⟨_, rfl, rfl, rfl, rfl, rfl, trivial⟩
theorem kf_sl {fz : List (Nat × Ent)} {r ver n : Nat} {ks : List (List UInt8)} (he : getM fz r = some ⟨ver, .row 1 (fun k : List UInt8 => [AV.bs 0 k]) [] ks⟩) (hn : n = ks.length) : AF fz (.own r ver 1 0 n) (.sl 0 1 (fun k : List UInt8 => [AV.bs 0 k]) [] ks) :=
 AF.own_sl he hn hn.symm fun i x y hx hy => by
  rw [hx] at hy
  obtain rfl := Option.some.inj hy
  exact AFL.cons AF.same AFL.nil
theorem copy9_vc (ks vs : List (List UInt8)) (room : Int) (hl : ks.length ≤ 4096) (hv : vs.length ≤ 4096) (vm : Nat) : Spec Tryz.prog 20 [.ref 0 vm 3 0 0] [⟨vm, .obj [.sl 0 1 (fun k : List UInt8 => [AV.bs 0 k]) [] ks, .sl 0 1 (fun k : List UInt8 => [AV.bs 0 k]) [] vs, .val (.int .i64 room)]⟩] (pms (.ref 21 1 3 0 0) [⟨vm, .obj [.sl 0 1 (fun k : List UInt8 => [AV.bs 0 k]) [] ks, .sl 0 1 (fun k : List UInt8 => [AV.bs 0 k]) [] vs, .val (.int .i64 room)]⟩] [(21, ⟨1, .obj [.sl 0 1 (fun k : List UInt8 => [AV.bs 0 k]) [] ks, .sl 0 1 (fun k : List UInt8 => [AV.bs 0 k]) [] vs, .val (.int .i64 room)]⟩)]) :=
 spec_frzK [(4, ⟨2, .row 1 (fun k : List UInt8 => [AV.bs 0 k]) [] ks⟩), (10, ⟨2, .row 1 (fun k : List UInt8 => [AV.bs 0 k]) [] vs⟩)] _ (copy9_raw ks vs room hl hv vm) (by simp [geM]) ⟨rfl, rfl, trivial⟩ ⟨⟨_, rfl, rfl, BF.obj rfl (AFL.cons (kf_sl rfl rfl) (AFL.cons (kf_sl rfl rfl) (AFL.cons AF.same AFL.nil))), rfl, rfl⟩, trivial⟩ AF.same ⟨rfl, BF.same, trivial⟩
theorem del9_no (z : Nat) (ks vs : List (List UInt8)) (key : List UInt8) (room : Int) (hl : ks.length ≤ 4096) (hk : ¬ atI ks key < ks.length) (vm : Nat) : Spec Tryz.prog 24 [.ref 0 vm 3 0 0, .bs z key] [⟨vm, .obj [.sl 0 1 (fun k : List UInt8 => [AV.bs 0 k]) [] ks, .sl 0 1 (fun k : List UInt8 => [AV.bs 0 k]) [] vs, .val (.int .i64 room)]⟩] (pms (.val (.int .i64 3)) [⟨vm, .obj [.sl 0 1 (fun k : List UInt8 => [AV.bs 0 k]) [] ks, .sl 0 1 (fun k : List UInt8 => [AV.bs 0 k]) [] vs, .val (.int .i64 room)]⟩] []) := by
 have hat := at9_vc z ks vs key room (by omega) vm
 unfold atV at hat
 rw [if_neg hk] at hat
 refine spec_entry tbOk Tryz.func24 rfl Tryz.ntmps24 Tryz.results24 ?_
 refine gg (k := ?_)
 refine cmks (hat) Tryz.call29 1 [0] [0] [] ?_
 refine gg (k := ?_)
 exact ⟨_, rfl, rfl, trivial⟩
theorem del9_raw (z : Nat) (ks vs : List (List UInt8)) (key : List UInt8) (room : Int) (hl : ks.length ≤ 4096) (hv : vs.length = ks.length) (p : Nat) (hp : atI ks key = p) (hk : p < ks.length) (vm : Nat) : Spec Tryz.prog 24 [.ref 0 vm 3 0 0, .bs z key] [⟨vm, .obj [.sl 0 1 (fun k : List UInt8 => [AV.bs 0 k]) [] ks, .sl 0 1 (fun k : List UInt8 => [AV.bs 0 k]) [] vs, .val (.int .i64 room)]⟩] (pms (.val (.int .i64 0)) [⟨vm, .obj [.own 14 3 1 0 (ks.take p ++ ks.drop (p + 1)).length, .own 22 3 1 0 (vs.take p ++ vs.drop (p + 1)).length, .val (.int .i64 room)]⟩] [(14, ⟨3, .row 1 (fun k : List UInt8 => [AV.bs 0 k]) [] (ks.take p ++ ks.drop (p + 1))⟩), (22, ⟨3, .row 1 (fun k : List UInt8 => [AV.bs 0 k]) [] (vs.take p ++ vs.drop (p + 1))⟩)]) := by
 have hat := at9_vc z ks vs key room (by omega) vm
 unfold atV at hat
 rw [hp, if_pos hk] at hat
 have k1 : (ks.take p).length = p := by rw [List.length_take]; omega
 have k2 : (vs.take p).length = p := by rw [List.length_take]; omega
 have k3 : (ks.drop (p + 1)).length = ks.length - (p + 1) := List.length_drop ..
 have k4 : (vs.drop (p + 1)).length = ks.length - (p + 1) := by rw [List.length_drop, hv]
 refine spec_entry tbOk Tryz.func24 rfl Tryz.ntmps24 Tryz.results24 ?_
 refine gg (k := ?_)
 refine cmks (hat) Tryz.call29 1 [0] [0] [] ?_
 refine gg (k := ?_)
 (
 refine ⟨List UInt8, (fun k : List UInt8 => [AV.bs 0 k]), [], (ks.take p), ?_⟩
 conv => whnf
 refine And.intro ⟨rfl, fun x hx => ⟨trivial, trivial⟩, rfl, rfl, rfl, rfl, .inr rfl, rfl, by show _ * 24 ≤ _; (try simp only [List.length_append]); omega, by decide⟩ ?_)
 refine gg (k := ?_)
 (
 refine ⟨List UInt8, (fun k : List UInt8 => [AV.bs 0 k]), [], (vs.take p), ?_⟩
 conv => whnf
 refine And.intro ⟨rfl, fun x hx => ⟨trivial, trivial⟩, rfl, rfl, rfl, rfl, .inr rfl, rfl, by show _ * 24 ≤ _; (try simp only [List.length_append]); omega, by decide⟩ ?_)
 refine gg (k := ?_)
 (
 refine ⟨List UInt8, (fun k : List UInt8 => [AV.bs 0 k]), [], (ks.take p ++ ks.drop (p + 1)), ?_⟩
 conv => whnf
 refine And.intro ⟨rfl, fun x hx => ⟨trivial, trivial⟩, rfl, rfl, rfl, rfl, .inr rfl, (by rw [show ((p : Int) + 1).toNat = p + 1 by omega, Int.toNat_natCast, List.take_length, List.map_append]), by show _ * 24 ≤ _; (try simp only [List.length_append]); omega, by decide⟩ ?_)
 refine gg (k := ?_)
 (
 refine ⟨List UInt8, (fun k : List UInt8 => [AV.bs 0 k]), [], (vs.take p ++ vs.drop (p + 1)), ?_⟩
 conv => whnf
 refine And.intro ⟨rfl, fun x hx => ⟨trivial, trivial⟩, rfl, rfl, rfl, rfl, .inr rfl, (by rw [show ((p : Int) + 1).toNat = p + 1 by omega, Int.toNat_natCast, List.take_length, List.map_append]), by show _ * 24 ≤ _; (try simp only [List.length_append]); omega, by decide⟩ ?_)
 refine gg (k := ?_)
 exact ⟨_, rfl, rfl, rfl, rfl, trivial⟩
def dropAt (l : List (List UInt8)) (p : Nat) : List (List UInt8) := l.take p ++ l.drop (p + 1)
theorem dropAt_len {l : List (List UInt8)} {p : Nat} (h : p < l.length) : (dropAt l p).length = l.length - 1 := by
 unfold dropAt
 rw [List.length_append, List.length_take, List.length_drop]; omega
def delM (ks vs : List (List UInt8)) (key : List UInt8) : List (List UInt8) × List (List UInt8) := if atI ks key < ks.length then (dropAt ks (atI ks key), dropAt vs (atI ks key)) else (ks, vs)
theorem del9_vc (z : Nat) (ks vs : List (List UInt8)) (key : List UInt8) (room : Int) (hl : ks.length ≤ 4096) (hv : vs.length = ks.length) (vm : Nat) : Spec Tryz.prog 24 [.ref 0 vm 3 0 0, .bs z key] [⟨vm, .obj [.sl 0 1 (fun k : List UInt8 => [AV.bs 0 k]) [] ks, .sl 0 1 (fun k : List UInt8 => [AV.bs 0 k]) [] vs, .val (.int .i64 room)]⟩] (pms (.val (.int .i64 (if atI ks key < ks.length then 0 else 3))) [⟨vm, .obj [.sl 0 1 (fun k : List UInt8 => [AV.bs 0 k]) [] (delM ks vs key).1, .sl 0 1 (fun k : List UInt8 => [AV.bs 0 k]) [] (delM ks vs key).2, .val (.int .i64 room)]⟩] []) := by
 by_cases h : atI ks key < ks.length
 ·rw [show delM ks vs key = (dropAt ks (atI ks key), dropAt vs (atI ks key)) from if_pos h, if_pos h]
  exact spec_frz (del9_raw z ks vs key room hl hv _ rfl h vm) (by simp [geM]) AF.same ⟨rfl, BF.obj rfl (AFL.cons (kf_sl rfl rfl) (AFL.cons (kf_sl rfl rfl) (AFL.cons AF.same AFL.nil))), trivial⟩
 ·rw [show delM ks vs key = (ks, vs) from if_neg h, if_neg h]
  exact del9_no z ks vs key room hl h vm
def insI : List (List UInt8) → List UInt8 → Nat
 | [], _ => 0
 | k :: r, key => if Op.bytesLess k key = true then 1 + insI r key else 0
theorem insI_le : ∀ (ks : List (List UInt8)) (key : List UInt8), insI ks key ≤ ks.length
 | [], _ => Nat.le_refl _
 | k :: r, key => by
  unfold insI
  have := insI_le r key
  rw [List.length_cons]
  split <;> omega
theorem insI_yes : ∀ (ks : List (List UInt8)) (key : List UInt8) (i : Nat), i ≤ insI ks key → i < ks.length → Op.bytesLess (ks.getD i []) key = true → i + 1 ≤ insI ks key
 | [], _, i, _, h, _ => absurd h (Nat.not_lt_zero _)
 | k :: r, key, 0, h1, h2, h3 => by
  have hk : Op.bytesLess k key = true := by simpa using h3
  unfold insI
  rw [if_pos hk]; omega
 | k :: r, key, i + 1, h1, h2, h3 => by
  unfold insI at h1 ⊢
  split at h1
  ·rename_i hk
   rw [if_pos hk]
   have := insI_yes r key i (by omega) (by simpa using h2) (by simpa using h3)
   omega
  ·omega
theorem insI_no : ∀ (ks : List (List UInt8)) (key : List UInt8) (i : Nat), i ≤ insI ks key → i < ks.length → Op.bytesLess (ks.getD i []) key = false → insI ks key = i
 | [], _, i, _, h, _ => absurd h (Nat.not_lt_zero _)
 | k :: r, key, 0, h1, h2, h3 => by
  have hk : Op.bytesLess k key = false := by simpa using h3
  unfold insI
  rw [if_neg (by rw [hk]; simp)]
 | k :: r, key, i + 1, h1, h2, h3 => by
  unfold insI at h1 ⊢
  split at h1
  ·rename_i hk
   rw [if_pos hk, insI_no r key i (by omega) (by simpa using h2) (by simpa using h3)]
   omega
  ·omega
def putAt (l : List (List UInt8)) (p : Nat) (x : List UInt8) : List (List UInt8) := l.take p ++ [x] ++ l.drop p
theorem putAt_len {l : List (List UInt8)} {p : Nat} {x : List UInt8} (h : p ≤ l.length) : (putAt l p x).length = l.length + 1 := by
 unfold putAt
 rw [List.length_append, List.length_append, List.length_take, List.length_drop, List.length_singleton]; omega
theorem put_map (f : List UInt8 → List AV) (l : List (List UInt8)) (i : Nat) (x : List UInt8) : (l.take i ++ [x]).map f ++ (List.drop (i : Int).toNat (l.take (l.length : Int).toNat)).map f = (putAt l i x).map f := by
 unfold putAt
 rw [Int.toNat_natCast, Int.toNat_natCast, List.take_length, ← List.map_append]
def setV (ks vs : List (List UInt8)) (room : Int) (key val : List UInt8) : Int × List (List UInt8) × List (List UInt8) :=
 if key.length < 1 ∨ 255 < key.length ∨ 65536 < val.length then (1, ks, vs)
 else if room < (usedM ks vs ks.length + (12 + key.length + val.length) : Nat) then (5, ks, vs)
 else (0, putAt (delM ks vs key).1 (insI (delM ks vs key).1 key) key, putAt (delM ks vs key).2 (insI (delM ks vs key).1 key) val)
theorem delM_len {ks vs : List (List UInt8)} {key : List UInt8} (hv : vs.length = ks.length) : (delM ks vs key).2.length = (delM ks vs key).1.length ∧ (delM ks vs key).1.length ≤ ks.length := by
 by_cases h : atI ks key < ks.length
 ·rw [show delM ks vs key = (dropAt ks (atI ks key), dropAt vs (atI ks key)) from if_pos h]
  have h1 := dropAt_len h
  have h2 := dropAt_len (l := vs) (p := atI ks key) (by omega)
  simp only
  omega
 ·rw [show delM ks vs key = (ks, vs) from if_neg h]
  exact ⟨hv, Nat.le_refl _⟩
theorem blkN {id : Nat} {Q : Ex → St → Prop} {s : St} (h : Q .normal s) : blkK id Q .normal s := h
theorem set9_raw (ks vs : List (List UInt8)) (key val : List UInt8) (room : Int) (hl : ks.length ≤ 4096) (hv : vs.length = ks.length) (hb : (∀ k ∈ ks, k.length ≤ 4294967296) ∧ (∀ v ∈ vs, v.length ≤ 4294967296)) (hk : ¬ (key.length < 1 ∨ 255 < key.length ∨ 65536 < val.length)) (hr : ¬ room < (usedM ks vs ks.length + (12 + key.length + val.length) : Nat)) (p : Nat) (hp : insI (delM ks vs key).1 key = p) (vm : Nat) : Spec Tryz.prog 21 [.ref 0 vm 3 0 0, .bs 0 key, .bs 0 val] [⟨vm, .obj [.sl 0 1 (fun k : List UInt8 => [AV.bs 0 k]) [] ks, .sl 0 1 (fun k : List UInt8 => [AV.bs 0 k]) [] vs, .val (.int .i64 room)]⟩]
   (pms (.val (.int .i64 0)) [⟨vm, .obj [.own 62 4 1 0 (putAt (delM ks vs key).1 p key).length, .own 74 4 1 0 (putAt (delM ks vs key).2 p val).length, .val (.int .i64 room)]⟩] [(62, ⟨4, .row 1 (fun k : List UInt8 => [AV.bs 0 k]) [] (putAt (delM ks vs key).1 p key)⟩), (74, ⟨4, .row 1 (fun k : List UInt8 => [AV.bs 0 k]) [] (putAt (delM ks vs key).2 p val)⟩)]) := by
 have hus := used9_vc ks vs room hl hv hb vm
 have hdl := del9_vc 0 ks vs key room hl hv vm
 have hdm := delM_len (key := key) hv
 have hul := usedM_le hb hv ks.length (Nat.le_refl _)
 have hpl := insI_le (delM ks vs key).1 key
 generalize delM ks vs key = D at hdl hdm hp hpl ⊢
 obtain ⟨K, V⟩ := D
 simp only at hdl hdm hp hpl ⊢
 subst hp
 have hs : ∀ l, (strOf l).data.toList = l := fun l => by simp [strOf]
 refine spec_entry tbOk Tryz.func21 rfl Tryz.ntmps21 Tryz.results21 ?_
 refine gg (k := ?_)
 refine draw_of (p := 1) tbOk hm [0, 1, 0, 4, 0, 16, 63, 127, 0, 256, 768, 1792, 4095] [⟨0, false, false, []⟩, ⟨2, false, false, []⟩, ⟨3, true, false, [23, 24, 27, 28, 29, 30, 31, 32, 33, 34, 35]⟩, ⟨4, false, false, []⟩, ⟨5, true, false, [23, 24, 25, 26, 29, 30, 31, 32, 33, 34, 35]⟩, ⟨8, false, false, []⟩, ⟨9, true, false, [23, 24, 25, 26, 27, 28, 29, 30, 33, 34, 35]⟩, ⟨10, true, false, [23, 24, 25, 26, 27, 28, 29, 30, 34, 35]⟩, ⟨11, true, false, [23, 24, 25, 26, 27, 28, 29, 30, 35]⟩, ⟨1, true, false, [25, 26, 27, 28, 29, 30, 31, 32, 33, 34, 35]⟩, ⟨6, true, false, [30, 31, 32, 33, 34, 35]⟩, ⟨7, false, false, []⟩, ⟨12, false, false, []⟩] (by kernel_rfl) ?_
 refine gg (k := ?_)
 refine cmks (hus) Tryz.call75 1 [0] [0] [] ?_
 refine gg (k := ?_)
 refine cmks (need8_vc key.length val.length (by omega) (by omega)) Tryz.call76 0 [] [] [] ?_
 refine gg (k := ?_)
 refine cmks (hdl) Tryz.call24 1 [0] [0] [] ?_
 refine gg (k := ?_)
 (refine sts (k := ?_))
 conv => whnf
 refine loop_at (fun i : Nat => i ≤ insI K key) (fun i => K.length - i) 1 [7, 39, 40, 41, 42, 43, 44, 45, 46, 47, 48, 49, 50, 51, 52, 53, 54, 55, 56, 57, 58, 59, 60] (fun i => [(7, .val (.int .i64 (i : Int)))]) (fun i => []) 0 (Nat.zero_le _) ?_ ?_ ?_
 ·exact no_implicit_lambda% ten
 ·exact no_implicit_lambda% hen
 ·rintro i v i1
  refine glp (k := ?_)
  refine gg (k := ?_)
  refine draw_of (p := 1) tbOk hm [0, 0, 2, 6, 14, 30, 63, 127, 255, 511, 1023, 2047, 255, 8191, 16383, 32767, 255, 65791, 262143, 524287] [⟨0, false, false, []⟩, ⟨1, false, false, []⟩, ⟨2, true, false, [39, 42, 43, 44, 45, 46, 47, 48, 49, 50, 51, 52, 53, 54, 55, 56, 57, 58]⟩, ⟨3, true, false, [39, 43, 44, 45, 46, 47, 48, 49, 50, 51, 52, 53, 54, 55, 56, 57, 58]⟩, ⟨4, true, false, [39, 44, 45, 46, 47, 48, 49, 50, 51, 52, 53, 54, 55, 56, 57, 58]⟩, ⟨5, true, false, [39, 45, 46, 47, 48, 49, 50, 51, 52, 53, 54, 55, 56, 57, 58]⟩, ⟨6, false, false, []⟩, ⟨7, false, false, []⟩, ⟨8, false, false, []⟩, ⟨9, true, false, [49, 50, 51, 52, 53, 54, 55, 56, 57, 58]⟩, ⟨10, true, false, [50, 51, 52, 53, 54, 55, 56, 57, 58]⟩, ⟨11, true, false, [51, 52, 53, 54, 55, 56, 57, 58]⟩, ⟨12, false, false, []⟩, ⟨13, true, false, [53, 54, 55, 56, 57, 58]⟩, ⟨14, true, false, [54, 55, 56, 57, 58]⟩, ⟨15, true, false, [55, 56, 57, 58]⟩, ⟨16, false, false, []⟩, ⟨17, true, false, [47, 48, 49, 50, 51, 52, 53, 54, 57, 58]⟩, ⟨18, false, false, []⟩, ⟨19, false, false, []⟩] (by kernel_rfl) ?_
  by_cases hlt : i < K.length
  ·refine gg (k := ?_)
   refine ⟨fun h' => ?_, fun h' => ?_⟩
   ·simp only [Bool.and_eq_true, hs, Int.toNat_natCast] at h'
    have hk1 := insI_yes K key i i1 hlt h'.2
    have hi9 : (i : Int) + 1 ≤ 4096 := by omega
    clear h' hul hr hk hs hdl hus hb
    refine gg (k := ?_)
    refine (show blkK 1 (backA _ _ _ _ _ _ _ _ _) .normal _ from ?_)
    refine blkN ?_
    refine back_at (i + 1) hk1 (by show K.length - (i + 1) < K.length - i; omega) ?_ ?_
    ·exact no_implicit_lambda% ten
    ·exact no_implicit_lambda% hen
   ·simp only [Bool.and_eq_false_iff, hs, Int.toNat_natCast, decide_eq_false_iff_not] at h'
    have hk1 := insI_no K key i i1 hlt (h'.resolve_left (by omega))
    subst hk1
    (
 have t1 : (K.take (insI K key)).length = (insI K key) := by rw [List.length_take]; omega
 have t2 : (V.take (insI K key)).length = (insI K key) := by rw [List.length_take]; omega
 have t3 := putAt_len (x := key) hpl
 have t4 := putAt_len (l := V) (p := (insI K key)) (x := val) (by omega)
 refine gg (k := ?_)
 (
 refine ⟨List UInt8, (fun k : List UInt8 => [AV.bs 0 k]), [], (K.take (insI K key)), ?_⟩
 conv => whnf
 refine And.intro ⟨rfl, fun x hx => ⟨trivial, trivial⟩, rfl, rfl, rfl, rfl, .inr rfl, rfl, by show _ * 24 ≤ _; (try simp only [List.length_append]); omega, by decide⟩ ?_)
 refine gg (k := ?_)
 (
 refine ⟨List UInt8, (fun k : List UInt8 => [AV.bs 0 k]), [], (K.take (insI K key) ++ [key]), ?_⟩
 conv => whnf
 refine And.intro ⟨rfl, ⟨rfl, rfl, Nat.le_refl _, fun q hq => (by (have hq0 : q = 0 := by simpa using hq); subst hq0; exact ⟨trivial, trivial⟩)⟩, rfl, rfl, rfl, rfl, .inr rfl, (by rw [List.map_append]; rfl), by show _ * 24 ≤ _; simp only [List.length_append, List.length_singleton]; omega, by decide⟩ ?_)
 refine gg (k := ?_)
 (
 refine ⟨List UInt8, (fun k : List UInt8 => [AV.bs 0 k]), [], (V.take (insI K key)), ?_⟩
 conv => whnf
 refine And.intro ⟨rfl, fun x hx => ⟨trivial, trivial⟩, rfl, rfl, rfl, rfl, .inr rfl, rfl, by show _ * 24 ≤ _; (try simp only [List.length_append]); omega, by decide⟩ ?_)
 refine gg (k := ?_)
 (
 refine ⟨List UInt8, (fun k : List UInt8 => [AV.bs 0 k]), [], (V.take (insI K key) ++ [val]), ?_⟩
 conv => whnf
 refine And.intro ⟨rfl, ⟨rfl, rfl, Nat.le_refl _, fun q hq => (by (have hq0 : q = 0 := by simpa using hq); subst hq0; exact ⟨trivial, trivial⟩)⟩, rfl, rfl, rfl, rfl, .inr rfl, (by rw [List.map_append]; rfl), by show _ * 24 ≤ _; simp only [List.length_append, List.length_singleton]; omega, by decide⟩ ?_)
 refine gg (k := ?_)
 (
 refine ⟨List UInt8, (fun k : List UInt8 => [AV.bs 0 k]), [], (putAt K (insI K key) key), ?_⟩
 conv => whnf
 refine And.intro ⟨rfl, fun x hx => ⟨trivial, trivial⟩, rfl, rfl, rfl, rfl, .inr rfl, put_map _ _ _ _, by show _ * 24 ≤ _; (try simp only [List.length_append]); omega, by decide⟩ ?_)
 refine gg (k := ?_)
 (
 refine ⟨List UInt8, (fun k : List UInt8 => [AV.bs 0 k]), [], (putAt V (insI K key) val), ?_⟩
 conv => whnf
 refine And.intro ⟨rfl, fun x hx => ⟨trivial, trivial⟩, rfl, rfl, rfl, rfl, .inr rfl, put_map _ _ _ _, by show _ * 24 ≤ _; (try simp only [List.length_append]); omega, by decide⟩ ?_)
 refine gg (k := ?_)
 exact ⟨_, rfl, rfl, rfl, rfl, trivial⟩)
  ·have hk1 : insI K key = i := by omega
   subst hk1
   (
 have t1 : (K.take (insI K key)).length = (insI K key) := by rw [List.length_take]; omega
 have t2 : (V.take (insI K key)).length = (insI K key) := by rw [List.length_take]; omega
 have t3 := putAt_len (x := key) hpl
 have t4 := putAt_len (l := V) (p := (insI K key)) (x := val) (by omega)
 refine gg (k := ?_)
 (
 refine ⟨List UInt8, (fun k : List UInt8 => [AV.bs 0 k]), [], (K.take (insI K key)), ?_⟩
 conv => whnf
 refine And.intro ⟨rfl, fun x hx => ⟨trivial, trivial⟩, rfl, rfl, rfl, rfl, .inr rfl, rfl, by show _ * 24 ≤ _; (try simp only [List.length_append]); omega, by decide⟩ ?_)
 refine gg (k := ?_)
 (
 refine ⟨List UInt8, (fun k : List UInt8 => [AV.bs 0 k]), [], (K.take (insI K key) ++ [key]), ?_⟩
 conv => whnf
 refine And.intro ⟨rfl, ⟨rfl, rfl, Nat.le_refl _, fun q hq => (by (have hq0 : q = 0 := by simpa using hq); subst hq0; exact ⟨trivial, trivial⟩)⟩, rfl, rfl, rfl, rfl, .inr rfl, (by rw [List.map_append]; rfl), by show _ * 24 ≤ _; simp only [List.length_append, List.length_singleton]; omega, by decide⟩ ?_)
 refine gg (k := ?_)
 (
 refine ⟨List UInt8, (fun k : List UInt8 => [AV.bs 0 k]), [], (V.take (insI K key)), ?_⟩
 conv => whnf
 refine And.intro ⟨rfl, fun x hx => ⟨trivial, trivial⟩, rfl, rfl, rfl, rfl, .inr rfl, rfl, by show _ * 24 ≤ _; (try simp only [List.length_append]); omega, by decide⟩ ?_)
 refine gg (k := ?_)
 (
 refine ⟨List UInt8, (fun k : List UInt8 => [AV.bs 0 k]), [], (V.take (insI K key) ++ [val]), ?_⟩
 conv => whnf
 refine And.intro ⟨rfl, ⟨rfl, rfl, Nat.le_refl _, fun q hq => (by (have hq0 : q = 0 := by simpa using hq); subst hq0; exact ⟨trivial, trivial⟩)⟩, rfl, rfl, rfl, rfl, .inr rfl, (by rw [List.map_append]; rfl), by show _ * 24 ≤ _; simp only [List.length_append, List.length_singleton]; omega, by decide⟩ ?_)
 refine gg (k := ?_)
 (
 refine ⟨List UInt8, (fun k : List UInt8 => [AV.bs 0 k]), [], (putAt K (insI K key) key), ?_⟩
 conv => whnf
 refine And.intro ⟨rfl, fun x hx => ⟨trivial, trivial⟩, rfl, rfl, rfl, rfl, .inr rfl, put_map _ _ _ _, by show _ * 24 ≤ _; (try simp only [List.length_append]); omega, by decide⟩ ?_)
 refine gg (k := ?_)
 (
 refine ⟨List UInt8, (fun k : List UInt8 => [AV.bs 0 k]), [], (putAt V (insI K key) val), ?_⟩
 conv => whnf
 refine And.intro ⟨rfl, fun x hx => ⟨trivial, trivial⟩, rfl, rfl, rfl, rfl, .inr rfl, put_map _ _ _ _, by show _ * 24 ≤ _; (try simp only [List.length_append]); omega, by decide⟩ ?_)
 refine gg (k := ?_)
 exact ⟨_, rfl, rfl, rfl, rfl, trivial⟩)
theorem set9_vc (ks vs : List (List UInt8)) (key val : List UInt8) (room : Int) (hl : ks.length ≤ 4096) (hv : vs.length = ks.length) (hb : (∀ k ∈ ks, k.length ≤ 4294967296) ∧ (∀ v ∈ vs, v.length ≤ 4294967296)) (hk : ¬ (key.length < 1 ∨ 255 < key.length ∨ 65536 < val.length)) (hr : ¬ room < (usedM ks vs ks.length + (12 + key.length + val.length) : Nat)) (vm : Nat) : Spec Tryz.prog 21 [.ref 0 vm 3 0 0, .bs 0 key, .bs 0 val] [⟨vm, .obj [.sl 0 1 (fun k : List UInt8 => [AV.bs 0 k]) [] ks, .sl 0 1 (fun k : List UInt8 => [AV.bs 0 k]) [] vs, .val (.int .i64 room)]⟩]
   (pms (.val (.int .i64 (setV ks vs room key val).1)) [⟨vm, .obj [.sl 0 1 (fun k : List UInt8 => [AV.bs 0 k]) [] (setV ks vs room key val).2.1, .sl 0 1 (fun k : List UInt8 => [AV.bs 0 k]) [] (setV ks vs room key val).2.2, .val (.int .i64 room)]⟩] []) := by
 rw [show setV ks vs room key val = (0, putAt (delM ks vs key).1 (insI (delM ks vs key).1 key) key, putAt (delM ks vs key).2 (insI (delM ks vs key).1 key) val) by unfold setV; rw [if_neg hk, if_neg hr]]
 exact spec_frz (set9_raw ks vs key val room hl hv hb hk hr _ rfl vm) (by simp [geM]) AF.same ⟨rfl, BF.obj rfl (AFL.cons (kf_sl rfl rfl) (AFL.cons (kf_sl rfl rfl) (AFL.cons AF.same AFL.nil))), trivial⟩
theorem set9_all (ks vs : List (List UInt8)) (key val : List UInt8) (room : Int) (hl : ks.length ≤ 4096) (hv : vs.length = ks.length) (hb : (∀ k ∈ ks, k.length ≤ 4294967296) ∧ (∀ v ∈ vs, v.length ≤ 4294967296)) (hkl : key.length ≤ 140737488355328) (hvl : val.length ≤ 140737488355328) (vm : Nat) : Spec Tryz.prog 21 [.ref 0 vm 3 0 0, .bs 0 key, .bs 0 val] [⟨vm, .obj [.sl 0 1 (fun k : List UInt8 => [AV.bs 0 k]) [] ks, .sl 0 1 (fun k : List UInt8 => [AV.bs 0 k]) [] vs, .val (.int .i64 room)]⟩]
   (pms (.val (.int .i64 (setV ks vs room key val).1)) [⟨vm, .obj [.sl 0 1 (fun k : List UInt8 => [AV.bs 0 k]) [] (setV ks vs room key val).2.1, .sl 0 1 (fun k : List UInt8 => [AV.bs 0 k]) [] (setV ks vs room key val).2.2, .val (.int .i64 room)]⟩] []) := by
 by_cases hk : key.length < 1 ∨ 255 < key.length ∨ 65536 < val.length
 ·rw [show setV ks vs room key val = (1, ks, vs) from if_pos hk]
  refine spec_entry tbOk Tryz.func21 rfl Tryz.ntmps21 Tryz.results21 ?_
  refine gg (k := ?_)
  exact ⟨_, rfl, rfl, trivial⟩
 by_cases hr : room < (usedM ks vs ks.length + (12 + key.length + val.length) : Nat)
 ·rw [show setV ks vs room key val = (5, ks, vs) by unfold setV; rw [if_neg hk, if_pos hr]]
  have hus := used9_vc ks vs room hl hv hb vm
  have hul := usedM_le hb hv ks.length (Nat.le_refl _)
  refine spec_entry tbOk Tryz.func21 rfl Tryz.ntmps21 Tryz.results21 ?_
  refine gg (k := ?_)
  refine draw_of (p := 1) tbOk hm [0, 1, 0, 4, 0, 16, 63, 127, 0, 256, 768, 1792, 4095] [⟨0, false, false, []⟩, ⟨2, false, false, []⟩, ⟨3, true, false, [23, 24, 27, 28, 29, 30, 31, 32, 33, 34, 35]⟩, ⟨4, false, false, []⟩, ⟨5, true, false, [23, 24, 25, 26, 29, 30, 31, 32, 33, 34, 35]⟩, ⟨8, false, false, []⟩, ⟨9, true, false, [23, 24, 25, 26, 27, 28, 29, 30, 33, 34, 35]⟩, ⟨10, true, false, [23, 24, 25, 26, 27, 28, 29, 30, 34, 35]⟩, ⟨11, true, false, [23, 24, 25, 26, 27, 28, 29, 30, 35]⟩, ⟨1, true, false, [25, 26, 27, 28, 29, 30, 31, 32, 33, 34, 35]⟩, ⟨6, true, false, [30, 31, 32, 33, 34, 35]⟩, ⟨7, false, false, []⟩, ⟨12, false, false, []⟩] (by kernel_rfl) ?_
  refine gg (k := ?_)
  refine cmks (hus) Tryz.call75 1 [0] [0] [] ?_
  refine gg (k := ?_)
  refine cmks (need8_vc key.length val.length (by omega) (by omega)) Tryz.call76 0 [] [] [] ?_
  refine gg (k := ?_)
  exact ⟨_, rfl, rfl, trivial⟩
 exact set9_vc ks vs key val room hl hv hb hk hr vm
end Go.Proofs.YtpbpiehcchannaaGreatDoor
