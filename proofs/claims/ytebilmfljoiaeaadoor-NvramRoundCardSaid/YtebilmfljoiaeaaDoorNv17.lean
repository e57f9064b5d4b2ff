/- Walks of nvram: what a Get tells of a store that is a map. Conditions: none. -/
import Derived.Test.YtebilmfljoiaeaaDoorNv16
namespace Go.Proofs.YtebilmfljoiaeaaDoor
open Go.RowKit
set_option linter.unusedVariables false
set_option linter.unusedSimpArgs false
set_option maxRecDepth 100000
set_option maxHeartbeats 1500000
theorem get_in {W : Int} {n k : Nat} (s : FlS) (c : Nat) {kk : Nat} {G : Int} {M : List RK} (m : NM s c kk G M) (g : Goes W n k s) (pa : Lies n k 0 c) (pb : Lies n k c c) (r : RK) (hr : r ∈ M) (kn : Nat) (hkn : kn = r.key.length) (vs va vb v0 v1 v2 : Nat) : ∃ (ps : List (List UInt8)) (q : Nat), ps[q]? = some r.val ∧ Spec Tryd.prog 8 [.ref 0 vs 3 0 0, .own 5 v2 1 0 kn] [⟨vs, .obj [.ref 3 v0 6 0 0, .ref 1 va 3 0 0, .ref 2 vb 3 0 0]⟩, ⟨va, .obj [.ref 3 v0 6 0 0, .val (.int .i64 ((0 : Nat) : Int)), .val (.int .i64 (c : Int))]⟩, ⟨vb, .obj [.ref 3 v0 6 0 0, .val (.int .i64 (c : Int)), .val (.int .i64 (c : Int))]⟩, ⟨v0, .obj [.own 4 v1 1 0 s.l.length, .val (.int .i64 (s.k : Int)), .val (.int .i64 s.ar), .val (.int .i64 s.pt), .val (.bool s.dd), .val (.int .i64 s.wr)]⟩, ⟨v1, .bytes s.l⟩, ⟨v2, .bytes r.key⟩]
   (pms (.tup [.pl 22 4 q 0 r.val.length, .val (.bool true), .val (.int .i64 0)]) [⟨vs, .obj [.ref 3 v0 6 0 0, .ref 1 va 3 0 0, .ref 2 vb 3 0 0]⟩, ⟨va, .obj [.ref 3 v0 6 0 0, .val (.int .i64 ((0 : Nat) : Int)), .val (.int .i64 (c : Int))]⟩, ⟨vb, .obj [.ref 3 v0 6 0 0, .val (.int .i64 (c : Int)), .val (.int .i64 (c : Int))]⟩, ⟨v0, .obj [.own 4 v1 1 0 s.l.length, .val (.int .i64 (s.k : Int)), .val (.int .i64 s.ar), .val (.int .i64 s.pt), .val (.bool s.dd), .val (.int .i64 s.wr)]⟩, ⟨v1, .bytes s.l⟩, ⟨v2, .bytes r.key⟩] [(22, ⟨4, .pool ps⟩)]) := by
  obtain ⟨i, l, e, hi, hci, hS, _, hlk⟩ := m.look
  obtain ⟨j, d, hj, hk, hv⟩ := hlk r hr
  have hp := (poolOf_get l j d hj).2
  rw [hv] at hp
  refine ⟨poolOf l, 2 * j + 1, hp, ?_⟩
  rw [← hv]
  rcases hi with rfl | rfl
  · simp only [Nat.zero_mul] at hS
    exact getS_own0 s c g pa pb m.live hci hS r.key j d hj hk kn hkn vs va vb v0 v1 v2
  · simp only [Nat.one_mul] at hS
    exact getS_own1 s c g pa pb m.live hci hS r.key j d hj hk kn hkn vs va vb v0 v1 v2
theorem get_out {W : Int} {n k : Nat} (s : FlS) (c : Nat) {kk : Nat} {G : Int} {M : List RK} (m : NM s c kk G M) (g : Goes W n k s) (pa : Lies n k 0 c) (pb : Lies n k c c) (key : List UInt8) (hr : ∀ r ∈ M, r.key ≠ key) (kn : Nat) (hkn : kn = key.length) (vs va vb v0 v1 v2 : Nat) : Spec Tryd.prog 8 [.ref 0 vs 3 0 0, .own 5 v2 1 0 kn] [⟨vs, .obj [.ref 3 v0 6 0 0, .ref 1 va 3 0 0, .ref 2 vb 3 0 0]⟩, ⟨va, .obj [.ref 3 v0 6 0 0, .val (.int .i64 ((0 : Nat) : Int)), .val (.int .i64 (c : Int))]⟩, ⟨vb, .obj [.ref 3 v0 6 0 0, .val (.int .i64 (c : Int)), .val (.int .i64 (c : Int))]⟩, ⟨v0, .obj [.own 4 v1 1 0 s.l.length, .val (.int .i64 (s.k : Int)), .val (.int .i64 s.ar), .val (.int .i64 s.pt), .val (.bool s.dd), .val (.int .i64 s.wr)]⟩, ⟨v1, .bytes s.l⟩, ⟨v2, .bytes key⟩]
   (pms (.tup [.val (.slice none 0 0), .val (.bool false), .val (.int .i64 0)]) [⟨vs, .obj [.ref 3 v0 6 0 0, .ref 1 va 3 0 0, .ref 2 vb 3 0 0]⟩, ⟨va, .obj [.ref 3 v0 6 0 0, .val (.int .i64 ((0 : Nat) : Int)), .val (.int .i64 (c : Int))]⟩, ⟨vb, .obj [.ref 3 v0 6 0 0, .val (.int .i64 (c : Int)), .val (.int .i64 (c : Int))]⟩, ⟨v0, .obj [.own 4 v1 1 0 s.l.length, .val (.int .i64 (s.k : Int)), .val (.int .i64 s.ar), .val (.int .i64 s.pt), .val (.bool s.dd), .val (.int .i64 s.wr)]⟩, ⟨v1, .bytes s.l⟩, ⟨v2, .bytes key⟩] []) := by
  obtain ⟨i, l, e, hi, hci, hS, hno, _⟩ := m.look
  have hk := hno key hr
  rcases hi with rfl | rfl
  · simp only [Nat.zero_mul] at hS
    exact getN_own0 s c g pa pb m.live hci hS key hk kn hkn vs va vb v0 v1 v2
  · simp only [Nat.one_mul] at hS
    exact getN_own1 s c g pa pb m.live hci hS key hk kn hkn vs va vb v0 v1 v2
theorem same_pl (ps : List (List UInt8)) (q : Nat) (a b : List UInt8) (ha : ps[q]? = some a) (hla : a.length ≤ 140737488355328) {an bn : Nat} (han : an = a.length) (hbn : bn = b.length) {t : Bool} (ht : decide (a = b) = t) (w v : Nat) : Spec Tryd.prog 9 [.pl 0 w q 0 an, .own 1 v 1 0 bn] [⟨w, .pool ps⟩, ⟨v, .bytes b⟩] (pms (.val (.bool t)) [⟨w, .pool ps⟩, ⟨v, .bytes b⟩] []) := by
  subst han hbn ht
  have a1 := as_pl (rows := [⟨w, .pool ps⟩, ⟨v, .bytes b⟩]) (r := 0) (off := 0) (n := a.length) rfl ha (by omega)
  have a2 := as_own (rows := [⟨w, .pool ps⟩, ⟨v, .bytes b⟩]) (r := 1) (off := 0) (n := b.length) (l := b) rfl (by omega)
  rw [whole] at a1 a2
  exact spec_ro (same_vc 0 0 a b hla) trivial trivial (rows := [⟨w, .pool ps⟩, ⟨v, .bytes b⟩]) (args := [.pl 0 w q 0 a.length, .own 1 v 1 0 b.length]) (asL_cons a1 (asL_cons a2 asL_nil))
end Go.Proofs.YtebilmfljoiaeaaDoor
