/- NvramLasts: what its walk needs besides. Conditions: none. -/
import Derived.Test.YtpbpiehcchannaaGreatDoorJNkb
import Derived.Test.YtpbpiehcchannaaGreatDoorJHm
import Derived.Test.YtpbpiehcchannaaGreatDoorJHx
import Derived.Test.YtpbpiehcchannaaGreatDoorJHa
namespace Go.Proofs.YtpbpiehcchannaaGreatDoor
open Go.RowKit
set_option linter.unusedVariables false
set_option linter.unusedSimpArgs false
set_option maxRecDepth 100000
set_option maxHeartbeats 9000000
structure FallB where
 N : Int
 P : Int
def fallB (f : FallB) : List AV := [.val (.int .u16 f.N), .val (.int .u16 f.P)]
def fall0 : FallB := ⟨0, 0⟩
structure FallOk (f : FallB) : Prop where
 N : 0 ≤ f.N ∧ f.N ≤ 65535
 P : 0 ≤ f.P ∧ f.P ≤ 65535
structure LL where
 i : Nat
 kk : Nat
 s : FlS
 R : List RK
 vs : Nat
 va : Nat
 vb : Nat
 vm : Nat
structure TT where
 t : Nat
 kk : Nat
 s : FlS
theorem leTm_set {q vq p v' sz a b : Nat} : ∀ {t : List AV} {k : Nat}, t[k]? = some (.ref q vq sz a b) → leTm q vq p v' t (setL t k (.ref p v' sz a b))
 | [], k, h => by simp at h
 | x :: t, 0, h => by
  obtain rfl : x = .ref q vq sz a b := by simpa using h
  refine ⟨.inr (.inr ⟨sz, a, b, rfl, rfl⟩), ?_⟩
  clear h
  induction t with
  | nil => trivial
  | cons y t ih => exact ⟨.inr (.inl rfl), ih⟩
 | x :: t, k + 1, h => ⟨.inr (.inl rfl), leTm_set (t := t) (k := k) (by simpa using h)⟩
theorem armS_vc (s : FlS) (hd : s.dd = false) (x y : Int) (hx : 0 ≤ x ∧ x ≤ 65535) (hy : 0 ≤ y ∧ y ≤ 65535) (v0 v1 : Nat) : Spec Tryz.prog 30 [.ref 0 v0 6 0 0, .val (.int .i64 x), .val (.int .i64 y)] [⟨v0, .obj [.own 1 v1 1 0 s.l.length, .val (.int .i64 (s.k : Int)), .val (.int .i64 s.ar), .val (.int .i64 s.pt), .val (.bool s.dd), .val (.int .i64 s.wr)]⟩, ⟨v1, .bytes s.l⟩] (pst (.val (.int .i64 0)) [⟨v0, .obj [.own 1 v1 1 0 (s.armS x y).l.length, .val (.int .i64 ((s.armS x y).k : Int)), .val (.int .i64 (s.armS x y).ar), .val (.int .i64 (s.armS x y).pt), .val (.bool (s.armS x y).dd), .val (.int .i64 (s.armS x y).wr)]⟩, ⟨v1, .bytes (s.armS x y).l⟩]) := by
 have h := spec_arm s x y ⟨by omega, by omega⟩ ⟨by omega, by omega⟩ v0 v1
 rw [arm_eq hd hx.1 hy.1] at h
 exact h
theorem onS_vc (s : FlS) (hd : s.dd = true) (v0 v1 : Nat) : Spec Tryz.prog 32 [.ref 0 v0 6 0 0] [⟨v0, .obj [.own 1 v1 1 0 s.l.length, .val (.int .i64 (s.k : Int)), .val (.int .i64 s.ar), .val (.int .i64 s.pt), .val (.bool s.dd), .val (.int .i64 s.wr)]⟩, ⟨v1, .bytes s.l⟩] (pst (.val (.int .i64 0)) [⟨v0, .obj [.own 1 v1 1 0 s.onS.l.length, .val (.int .i64 (s.onS.k : Int)), .val (.int .i64 s.onS.ar), .val (.int .i64 s.onS.pt), .val (.bool s.onS.dd), .val (.int .i64 s.onS.wr)]⟩, ⟨v1, .bytes s.onS.l⟩]) := spec_on_e s _ _ (on_eq hd) v0 v1
def firstLoop : Code → Option Code
 | .loop b => some b
 | .seq a b => match firstLoop a with
  | some x => some x
  | none => firstLoop b
 | .cond _ a b => match firstLoop a with
  | some x => some x
  | none => firstLoop b
 | .block _ b => firstLoop b
 | .scope b => firstLoop b
 | _ => none
def lastsT (c y : Nat) (l : List OpB) (fs : List FallB) : List AV := [.val (.int .i64 ((2 * c : Nat) : Int)), .val (.int .i64 (y : Int)), .sl 0 5 (opB 0) opB0 l, .sl 0 2 fallB fall0 fs, .any, .any, .any, .any, .val (.bool false), .ref 36 2 6 0 0, .any, .ref 44 2 3 0 0, .ref 56 1 3 0 0, .val (.int .i64 ((0 : Nat) : Int)), .val (.int .i64 ((0 : Nat) : Int)), .any, .any, .any, .any, .any, .any, .any, .any, .any, .any, .any, .any, .any, .any, .any, .any, .any, .any, .any, .any, .any, .any, .any, .any, .any, .any, .any, .any, .any, .any, .any, .any, .any, .any, .any, .any, .any, .any, .any, .any, .any, .any, .any, .any, .any, .any, .any, .any, .any, .any, .any, .any, .any, .any, .any, .any, .any, .any, .any, .any, .any, .any, .any, .any, .any, .any, .any, .any, .any, .any, .any, .any, .any, .any, .any, .any, .any, .any, .any, .any, .any, .any, .any, .any, .any, .any, .any, .any, .any, .any, .any, .any, .any, .any, .any, .any, .any, .any, .any, .any, .any, .any, .any, .any, .any, .any, .any, .any, .any, .any, .any, .any, .any, .any, .any, .any, .any, .any, .any, .any, .any, .any, .any, .any, .any, .any, .any, .any, .any, .any, .any, .any, .any, .any, .any, .any, .any, .any, .any, .any, .any, .any, .any, .any, .any, .any, .any, .any, .any, .any, .any, .any, .any, .any, .any, .any, .any, .any, .any, .any, .any, .any, .any, .any, .any, .any, .any, .any, .any, .any, .any, .any, .any, .any, .any, .any, .any, .any, .any, .any, .any, .any, .any, .any, .any, .any, .any, .any, .any, .any, .any, .any, .any, .any, .any, .any, .any, .any, .any, .any]
def lastsH (c y : Nat) (s1 : FlS) : List Ent := [⟨0, .dead⟩, ⟨0, .dead⟩, ⟨0, .dead⟩, ⟨0, .dead⟩, ⟨0, .dead⟩, ⟨0, .dead⟩, ⟨0, .dead⟩, ⟨0, .dead⟩, ⟨0, .dead⟩, ⟨0, .dead⟩, ⟨0, .dead⟩, ⟨0, .dead⟩, ⟨0, .dead⟩, ⟨0, .dead⟩, ⟨0, .dead⟩, ⟨0, .dead⟩, ⟨0, .dead⟩, ⟨0, .dead⟩, ⟨0, .dead⟩, ⟨0, .dead⟩, ⟨0, .dead⟩, ⟨0, .dead⟩, ⟨0, .dead⟩, ⟨0, .dead⟩, ⟨0, .dead⟩, ⟨0, .dead⟩, ⟨0, .dead⟩, ⟨0, .dead⟩, ⟨0, .dead⟩, ⟨0, .dead⟩, ⟨0, .dead⟩, ⟨0, .dead⟩, ⟨0, .dead⟩, ⟨0, .dead⟩, ⟨0, .dead⟩, ⟨0, .dead⟩, ⟨2, .obj [.own 37 3 1 0 s1.l.length, .val (.int .i64 (s1.k : Int)), .val (.int .i64 s1.ar), .val (.int .i64 s1.pt), .val (.bool s1.dd), .val (.int .i64 s1.wr)]⟩, ⟨3, .bytes s1.l⟩, ⟨0, .dead⟩, ⟨0, .dead⟩, ⟨0, .dead⟩, ⟨0, .dead⟩, ⟨0, .dead⟩, ⟨0, .dead⟩, ⟨2, .obj [.ref 36 2 6 0 0, .ref 45 3 3 0 0, .ref 46 3 3 0 0]⟩, ⟨3, .obj [.ref 36 2 6 0 0, .val (.int .i64 ((0 : Nat) : Int)), .val (.int .i64 (c : Int))]⟩, ⟨3, .obj [.ref 36 2 6 0 0, .val (.int .i64 (c : Int)), .val (.int .i64 (c : Int))]⟩, ⟨0, .dead⟩, ⟨0, .dead⟩, ⟨0, .dead⟩, ⟨0, .dead⟩, ⟨0, .dead⟩, ⟨0, .dead⟩, ⟨0, .dead⟩, ⟨0, .dead⟩, ⟨0, .dead⟩, ⟨1, .obj [.sl 0 1 (fun k : List UInt8 => [AV.bs 0 k]) [] (ksR []), .sl 0 1 (fun k : List UInt8 => [AV.bs 0 k]) [] (vsR []), .val (.int .i64 ((c * y - 16 : Nat) : Int))]⟩, ⟨0, .dead⟩, ⟨0, .dead⟩, ⟨0, .dead⟩, ⟨0, .dead⟩, ⟨0, .dead⟩, ⟨0, .dead⟩, ⟨0, .dead⟩, ⟨0, .dead⟩, ⟨0, .dead⟩, ⟨0, .dead⟩, ⟨0, .dead⟩, ⟨0, .dead⟩, ⟨0, .dead⟩, ⟨0, .dead⟩, ⟨0, .dead⟩, ⟨0, .dead⟩, ⟨0, .dead⟩, ⟨0, .dead⟩, ⟨0, .dead⟩, ⟨0, .dead⟩, ⟨0, .dead⟩, ⟨0, .dead⟩, ⟨0, .dead⟩, ⟨0, .dead⟩, ⟨0, .dead⟩, ⟨0, .dead⟩, ⟨0, .dead⟩, ⟨0, .dead⟩, ⟨0, .dead⟩, ⟨0, .dead⟩, ⟨0, .dead⟩, ⟨0, .dead⟩, ⟨0, .dead⟩, ⟨0, .dead⟩, ⟨0, .dead⟩, ⟨0, .dead⟩, ⟨0, .dead⟩, ⟨0, .dead⟩, ⟨0, .dead⟩, ⟨0, .dead⟩, ⟨0, .dead⟩, ⟨0, .dead⟩, ⟨0, .dead⟩, ⟨0, .dead⟩, ⟨0, .dead⟩, ⟨0, .dead⟩, ⟨0, .dead⟩, ⟨0, .dead⟩, ⟨0, .dead⟩, ⟨0, .dead⟩, ⟨0, .dead⟩, ⟨0, .dead⟩, ⟨0, .dead⟩, ⟨0, .dead⟩, ⟨0, .dead⟩, ⟨0, .dead⟩, ⟨0, .dead⟩, ⟨0, .dead⟩, ⟨0, .dead⟩, ⟨0, .dead⟩, ⟨0, .dead⟩, ⟨0, .dead⟩, ⟨0, .dead⟩, ⟨0, .dead⟩, ⟨0, .dead⟩, ⟨0, .dead⟩, ⟨0, .dead⟩, ⟨0, .dead⟩, ⟨0, .dead⟩, ⟨0, .dead⟩, ⟨0, .dead⟩, ⟨0, .dead⟩, ⟨0, .dead⟩, ⟨0, .dead⟩, ⟨0, .dead⟩, ⟨0, .dead⟩, ⟨0, .dead⟩, ⟨0, .dead⟩, ⟨0, .dead⟩, ⟨0, .dead⟩, ⟨0, .dead⟩, ⟨0, .dead⟩, ⟨0, .dead⟩, ⟨0, .dead⟩, ⟨0, .dead⟩, ⟨0, .dead⟩, ⟨0, .dead⟩, ⟨0, .dead⟩, ⟨0, .dead⟩, ⟨0, .dead⟩, ⟨0, .dead⟩, ⟨0, .dead⟩, ⟨0, .dead⟩, ⟨0, .dead⟩, ⟨0, .dead⟩, ⟨0, .dead⟩, ⟨0, .dead⟩, ⟨0, .dead⟩, ⟨0, .dead⟩, ⟨0, .dead⟩, ⟨0, .dead⟩, ⟨0, .dead⟩, ⟨0, .dead⟩, ⟨0, .dead⟩, ⟨0, .dead⟩, ⟨0, .dead⟩, ⟨0, .dead⟩, ⟨0, .dead⟩, ⟨0, .dead⟩, ⟨0, .dead⟩, ⟨0, .dead⟩, ⟨0, .dead⟩, ⟨0, .dead⟩, ⟨0, .dead⟩, ⟨0, .dead⟩, ⟨0, .dead⟩, ⟨0, .dead⟩, ⟨0, .dead⟩, ⟨0, .dead⟩, ⟨0, .dead⟩, ⟨0, .dead⟩, ⟨0, .dead⟩, ⟨0, .dead⟩, ⟨0, .dead⟩, ⟨0, .dead⟩, ⟨0, .dead⟩, ⟨0, .dead⟩, ⟨0, .dead⟩, ⟨0, .dead⟩, ⟨0, .dead⟩, ⟨0, .dead⟩, ⟨0, .dead⟩, ⟨0, .dead⟩, ⟨0, .dead⟩, ⟨0, .dead⟩, ⟨0, .dead⟩, ⟨0, .dead⟩, ⟨0, .dead⟩, ⟨0, .dead⟩, ⟨0, .dead⟩, ⟨0, .dead⟩, ⟨0, .dead⟩, ⟨0, .dead⟩, ⟨0, .dead⟩, ⟨0, .dead⟩, ⟨0, .dead⟩, ⟨0, .dead⟩, ⟨0, .dead⟩, ⟨0, .dead⟩, ⟨0, .dead⟩, ⟨0, .dead⟩, ⟨0, .dead⟩, ⟨0, .dead⟩, ⟨0, .dead⟩, ⟨0, .dead⟩, ⟨0, .dead⟩, ⟨0, .dead⟩, ⟨0, .dead⟩]
def lastsS : List Nat := [8, 10, 11, 12, 13, 14, 15, 16, 17, 18, 19, 20, 21, 57, 58, 59, 60, 61, 62, 63, 64, 65, 66, 67, 68, 69, 70, 71, 72, 73, 74, 75, 76, 77, 78, 79, 80, 81, 82, 83, 84, 85, 86, 87, 88, 89, 90, 91, 92, 93, 94, 95, 96, 97, 98, 99, 100, 101, 102, 103, 104, 105, 106, 107, 108, 109, 110, 111, 112, 113, 114, 115, 116, 117, 118, 119, 120, 121, 122, 123, 124, 125, 126, 127, 128, 129, 130, 131, 132, 133, 134, 135, 136, 137, 138, 139, 140, 141, 142, 143, 144, 145, 146, 147, 148, 149, 150, 151, 152, 153, 154, 155, 156, 157, 158, 159, 160, 161, 162, 163, 164, 165, 166, 167, 168, 169, 170, 171, 172, 173, 174, 175, 176, 177, 178, 179, 180, 181, 182, 183, 184, 185, 186, 187, 188, 189, 190, 191, 192, 193, 194, 195, 196, 197, 198, 199, 200, 201, 202, 203, 204, 205, 206, 207, 208, 209, 210, 211, 212, 213]
def lastsTS : LL → List (Nat × AV) := fun z : LL => [(8, .val (.bool false)), (11, .ref 44 z.vs 3 0 0), (12, .ref 56 z.vm 3 0 0), (13, .val (.int .i64 (z.kk : Int))), (14, .val (.int .i64 (z.i : Int)))]
def lastsHS (c y : Nat) : LL → List (Nat × Ent) := fun z : LL => [(56, ⟨z.vm, .obj [.sl 0 1 (fun k : List UInt8 => [AV.bs 0 k]) [] (ksR z.R), .sl 0 1 (fun k : List UInt8 => [AV.bs 0 k]) [] (vsR z.R), .val (.int .i64 ((c * y - 16 : Nat) : Int))]⟩), (44, ⟨z.vs, .obj [.ref 36 2 6 0 0, .ref 45 z.va 3 0 0, .ref 46 z.vb 3 0 0]⟩), (45, ⟨z.va, .obj [.ref 36 2 6 0 0, .val (.int .i64 ((0 : Nat) : Int)), .val (.int .i64 (c : Int))]⟩), (46, ⟨z.vb, .obj [.ref 36 2 6 0 0, .val (.int .i64 (c : Int)), .val (.int .i64 (c : Int))]⟩), (36, ⟨2, .obj [.own 37 3 1 0 z.s.l.length, .val (.int .i64 (z.s.k : Int)), .val (.int .i64 z.s.ar), .val (.int .i64 z.s.pt), .val (.bool z.s.dd), .val (.int .i64 z.s.wr)]⟩), (37, ⟨3, .bytes z.s.l⟩)]
def lastsInv (c y : Nat) (l : List OpB) (z : LL) : Prop := z.i ≤ l.length ∧ z.kk ≤ 5 * z.i ∧ SN z.s c y (6 * z.i) z.R ∧ Calm z.s
end Go.Proofs.YtpbpiehcchannaaGreatDoor
