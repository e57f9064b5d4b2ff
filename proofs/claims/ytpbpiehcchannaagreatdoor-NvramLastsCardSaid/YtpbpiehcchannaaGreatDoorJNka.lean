/- Walks of lintellaw09: a store behind calls. Conditions: none. -/
import Derived.Test.YtpbpiehcchannaaGreatDoorJHj
import Derived.Test.YtpbpiehcchannaaGreatDoorJHq
namespace Go.Proofs.YtpbpiehcchannaaGreatDoor
open Go.RowKit
set_option linter.unusedVariables false
set_option linter.unusedSimpArgs false
set_option maxRecDepth 100000
set_option maxHeartbeats 1500000
theorem WeakE.obj (v : Nat) {l l' : List AV} (hl : l'.length = l.length) (h : ∀ (E : Env) (w : World) (vs : List Value), reps E w l vs → reps E w l' vs) : WeakE ⟨v, .obj l⟩ ⟨v, .obj l'⟩ := by
 refine ⟨rfl, fun _ => rfl, fun q => by simp only [Bd.count] at q ⊢; exact q, fun _ E w b h0 => ⟨fun _ => ?_, fun _ _ _ q => by cases q⟩, fun _ q => by cases q⟩
 obtain ⟨cur, T, lo, hi, h1, h2, h3, h4⟩ := h0.blk rfl
 refine ⟨cur, T, lo, hi, h1, h2, by simp only [Bd.count, Bd.sz, hl] at h3 ⊢; exact h3, fun i ys hy => ?_⟩
 simp only [Bd.at] at hy
 split at hy
 ·rename_i hi0
  cases hy
  obtain ⟨cs, k1, k2, k3⟩ := h4 i l (by simp [Bd.at, hi0])
  simp only [Bd.sz, hl] at k1 k3 ⊢
  exact ⟨cs, k1, h E w cs k2, k3⟩
 ·cases hy
theorem weak_map (v : Nat) (u : Value) : WeakE ⟨v, .obj [.val (.slice none 0 0), .val (.slice none 0 0), .val u]⟩ ⟨v, .obj [.sl 0 1 (fun k : List UInt8 => [AV.bs 0 k]) [] (ksR []), .sl 0 1 (fun k : List UInt8 => [AV.bs 0 k]) [] (vsR []), .val u]⟩ := by
 refine WeakE.obj v rfl fun E w vs h => ?_
 simp only [reps] at h ⊢
 obtain ⟨a, r, h1, h2, b, q, h3, h4, h5⟩ := h
 have nil : ∀ {a : Value}, rep E w (.val (.slice none 0 0)) a → rep E w (.sl 0 1 (fun k : List UInt8 => [AV.bs 0 k]) [] ([] : List (List UInt8))) a := fun {a} h => by
  simp only [rep] at h ⊢
  exact ⟨none, 0, 0, h, rfl, Nat.le_refl _, Nat.zero_le _, fun _ => rfl, fun i x hx => by simp at hx⟩
 exact ⟨a, r, h1, nil h2, b, q, h3, nil h4, h5⟩
theorem open_arg (s : FlS) {W : Int} {n k : Nat} (g : Goes W n k s) (x : Nat) (hx : n = x * k) (hbad : x % 2 = 1 ∨ (x / 2) * k < 64) (v0 v1 : Nat) : Spec Tryz.prog 17 [.ref 0 v0 6 0 0] [⟨v0, .obj [.own 1 v1 1 0 s.l.length, .val (.int .i64 (s.k : Int)), .val (.int .i64 s.ar), .val (.int .i64 s.pt), .val (.bool s.dd), .val (.int .i64 s.wr)]⟩, ⟨v1, .bytes s.l⟩] (pms (.tup [.val (.pointer none), .val (.int .i64 1)]) [⟨v0, .obj [.own 1 v1 1 0 s.l.length, .val (.int .i64 (s.k : Int)), .val (.int .i64 s.ar), .val (.int .i64 s.pt), .val (.bool s.dd), .val (.int .i64 s.wr)]⟩, ⟨v1, .bytes s.l⟩] []) := by
 have hkk := g.kk
 have hgl := g.l
 have hkn := g.k
 have hlen := g.len
 have hsec : (s.l.length : Int) / (s.k : Int) = (x : Int) := by
  rw [hgl, hkn, hx, Int.natCast_mul, Int.mul_ediv_cancel _ (by omega)]
 have hx64 : x ≤ 4194304 := by
  have : x * 1 ≤ x * k := Nat.mul_le_mul_left x hkk.1
  omega
 have hxk : (x / 2) * k ≤ n := by rw [hx]; exact Nat.mul_le_mul_right k (Nat.div_le_self x 2)
 have hss := spec_sectors s (by omega) ⟨by omega, by omega⟩ v0 v1
 rw [hsec] at hss
 have hdiv : ((x : Int)) / 2 = ((x / 2 : Nat) : Int) := by omega
 refine spec_entry tbOk Tryz.func17 rfl Tryz.ntmps17 Tryz.results17 ?_
 refine gg (k := ?_)
 refine cdet (hss) Tryz.call66 [0, 1] ?_
 refine gg (k := ?_)
 rw [hdiv]
 refine cdet (hss) Tryz.call66 [0, 1] ?_
 refine gg (k := ?_)
 by_cases hp : x % 2 = 1
 ·rw [show ((x : Int)) % 2 = 1 by omega]
  refine gg (k := ?_)
  intro _
  refine gg (k := ?_)
  exact ⟨_, rfl, rfl, trivial⟩
 ·rw [show ((x : Int)) % 2 = 0 by omega]
  have hlt : (x / 2) * k < 64 := hbad.resolve_left hp
  have hcs : ((x / 2 : Nat) : Int) * (s.k : Int) = (((x / 2) * k : Nat) : Int) := by rw [hkn]; simp
  refine gg (k := ?_)
  refine gcl (k := ?_)
  refine cdet (spec_size s v0 v1) Tryz.call67 [0, 1] ?_
  refine gg (k := ?_)
  exact ⟨_, rfl, rfl, trivial⟩
end Go.Proofs.YtpbpiehcchannaaGreatDoor
