/- What VarsFull needs beyond VarsNil: openers of slices, what is used and free. Conditions: the premises of each law. -/
import Derived.Test.YtmjpbmcbcppkfaaGreatDoorJAd
import Derived.Test.YtmjpbmcbcppkfaaGreatDoorJHk
import Derived.Test.YtmjpbmcbcppkfaaGreatDoorJKi
import Derived.Test.YtmjpbmcbcppkfaaGreatDoorJVva
import Derived.Test.YtmjpbmcbcppkfaaGreatDoorJVve
namespace Go.Proofs.YtmjpbmcbcppkfaaGreatDoor
open Go.RowKit Go.ChangeShapes Go.WideShapes Go.ChangeAt
set_option linter.unusedVariables false
set_option linter.unusedSimpArgs false
section
variable {P : Program} {W : World} {H : Type} {enc : TypeId × Value → H} {R : Nat}
theorem weightsAll_mem {P : Program} {H : Type} {E : TypeId} {d : DataW H} : ∀ {l : List (DataW H)}, d ∈ l → ∀ n ∈ d.weights P E, n ∈ DataW.weightsAll P E l
 | x :: l, h, n, hn => by
  simp only [DataW.weightsAll, List.mem_append]
  rcases List.mem_cons.1 h with rfl | h
  ·exact Or.inl hn
  ·exact Or.inr (weightsAll_mem h n hn)
theorem ocr_of {T : TypeId} {α : Type} {ok : α → Prop} {f : α → List AV} (h : OC P W H enc T ok f) : OCR P W H enc R T ok f := fun fuel cs x hx _ => h fuel cs x hx
theorem ocr_slice {T E : TypeId} {sz : Nat} (hT : P.underlying T = some (.slice E)) (hc : P.cellsOf E = sz) (hsz : 0 < sz) {α : Type} {ok : α → Prop} {f : α → List AV} (d : α) (hE : OCR P W H enc R E ok f) :
    OCR P W H enc R T (fun l : List α => (l.length ≤ maxLen ∧ l.length * P.bytesOf E ≤ R) ∧ ∀ a ∈ l, ok a) (fun l => [.sl 0 sz f d l]) := by
 intro fuel cs x h hb
 rcases Go.Deep.open_slice hT h with ⟨rfl, _⟩ | ⟨a, len, cap, m, n, D, Pl, rfl, _, hl, hm, hmm, hxe, hx⟩
 ·refine ⟨[], ⟨⟨by simp, by simp⟩, by simp⟩, ?_⟩
  simp only [reps, rep]
  exact ⟨_, _, rfl, ⟨none, 0, 0, rfl, rfl, Nat.le_refl _, Nat.zero_le _, fun _ => rfl, by simp⟩, rfl⟩
 ·simp only [if_true] at hmm
  subst hmm
  rw [hxe] at hb
  simp only [DataW.weights, hT] at hb
  have hlenB : len * P.bytesOf E ≤ R := by
   have h0 := hb _ (List.mem_cons_self ..)
   simp only [List.length_map, List.length_range] at h0
   exact Nat.le_trans (Nat.mul_le_mul_right _ (Nat.le_add_right _ _)) h0
  have hDB : ∀ i, i < len → ∀ n ∈ (D i).weights P E, n ≤ R := fun i hi n hn =>
   hb n (List.mem_cons_of_mem _ (List.mem_append_left _ (weightsAll_mem (List.mem_map.2 ⟨i, List.mem_range.2 hi, rfl⟩) n hn)))
  rw [hc] at hx
  have each : ∀ i, i < len → ∃ y : α, ok y ∧ ∃ cs' : List Value, cs'.length = sz ∧ reps (env0 W) W (f y) cs' ∧ ∀ j u, cs'[j]? = some u → W.cell? ((a.add (i * sz)).add j) = some u := by
   intro i hi
   obtain ⟨cs', h1, h2⟩ := hx i (by omega)
   obtain ⟨y, h3, h4⟩ := hE n cs' _ h2 (hDB i hi)
   obtain ⟨h5, h6, h7⟩ := World.cells?_some h1
   exact ⟨y, h3, cs', by omega, h4, fun j u hu => by
    have hj := (List.getElem?_eq_some_iff.1 hu).1
    rw [h7 j (by omega)]; exact hu⟩
  have build : ∀ k, k ≤ len → ∃ l : List α, l.length = k ∧ ∀ i y, l[i]? = some y → ok y ∧ ∃ cs' : List Value, cs'.length = sz ∧ reps (env0 W) W (f y) cs' ∧ ∀ j u, cs'[j]? = some u → W.cell? ((a.add (i * sz)).add j) = some u := by
   intro k
   induction k with
   | zero => intro _; exact ⟨[], rfl, by simp⟩
   | succ k ih =>
    intro hk
    obtain ⟨l, h1, h2⟩ := ih (by omega)
    obtain ⟨y, hy⟩ := each k hk
    refine ⟨l ++ [y], by simp [h1], fun i z hz => ?_⟩
    rw [List.getElem?_append] at hz
    split at hz
    ·exact h2 i z hz
    ·rename_i hi
     have : i = k := by
      have := (List.getElem?_eq_some_iff.1 hz).1
      simp at this; omega
     subst this
     simp [h1] at hz
     subst hz
     exact hy
  obtain ⟨l, h1, h2⟩ := build len (Nat.le_refl _)
  refine ⟨l, ⟨⟨by omega, by rw [h1]; exact hlenB⟩, fun y hy => ?_⟩, ?_⟩
  ·obtain ⟨i, hi, rfl⟩ := List.getElem_of_mem hy
   exact (h2 i _ (List.getElem?_eq_getElem hi)).1
  ·simp only [reps, rep]
   refine ⟨_, _, rfl, ⟨some a, len, _, rfl, h1.symm, hl, hm, (fun e => by cases e), fun i y hy => ?_⟩, rfl⟩
   obtain ⟨_, cs', h3, h4, h5⟩ := h2 i y hy
   have h0 := h5 0 _ (List.getElem?_eq_getElem (by omega))
   have hi := (List.getElem?_eq_some_iff.1 hy).1
   obtain ⟨_, cs0, g3, g4, g5⟩ := h2 0 _ (List.getElem?_eq_getElem (by omega))
   have g0 := g5 0 _ (List.getElem?_eq_getElem (by omega))
   rw [Nat.zero_mul, show (a.add 0).add 0 = a by simp [Addr.add]] at g0
   have hsp : a.spot = none := by
    unfold World.cell? at g0
    cases hs : a.spot with
    | none => rfl
    | some k =>
     simp only [hs, Option.isSome_some, if_true] at g0
     split at g0 <;> cases g0
   clear g0 g5 g4
   obtain ⟨b, o, sp⟩ := a
   simp only at hsp
   subst hsp
   simp only [Addr.add_lit] at h5 h0
   refine ⟨b, o, cs', rfl, ⟨rfl, ?_⟩, h3, h4, h5⟩
   unfold World.cell? at h0
   simp only at h0
   cases hb : W.heap[b]? with
   | none => simp [hb] at h0
   | some _ => exact (Array.getElem?_eq_some_iff.1 hb).1
end
end Go.Proofs.YtmjpbmcbcppkfaaGreatDoor
namespace Go.Proofs.YtmjpbmcbcppkfaaGreatDoor
open Go.RowKit
set_option linter.unusedVariables false
set_option linter.unusedSimpArgs false
set_option maxRecDepth 100000
set_option maxHeartbeats 1500000
section
theorem used0 {W : Int} {n k : Nat} (s : FlS) (c : Nat) (g : Goes W n k s) (pa : Lies n k 0 c) (pb : Lies n k c c) (hd : s.dd = false) (hi : (s.cnt c).1 = 0) {l : List Rc} {e : Nat} {b : Bool} (hS : s.scan 0 c = (l, e, b)) (vs va vb v0 v1 : Nat) : Spec Tryz.prog 46 [.ref 0 vs 3 0 0] [⟨vs, .obj [.ref 3 v0 6 0 0, .ref 1 va 3 0 0, .ref 2 vb 3 0 0]⟩, ⟨va, .obj [.ref 3 v0 6 0 0, .val (.int .i64 ((0 : Nat) : Int)), .val (.int .i64 (c : Int))]⟩, ⟨vb, .obj [.ref 3 v0 6 0 0, .val (.int .i64 (c : Int)), .val (.int .i64 (c : Int))]⟩, ⟨v0, .obj [.own 4 v1 1 0 s.l.length, .val (.int .i64 (s.k : Int)), .val (.int .i64 s.ar), .val (.int .i64 s.pt), .val (.bool s.dd), .val (.int .i64 s.wr)]⟩, ⟨v1, .bytes s.l⟩]
   (pms (.tup [.val (.int .i64 (usedK (keptK (l.map rkOf)) : Int)), .val (.int .i64 0)]) [⟨vs, .obj [.ref 3 v0 6 0 0, .ref 1 va 3 0 0, .ref 2 vb 3 0 0]⟩, ⟨va, .obj [.ref 3 v0 6 0 0, .val (.int .i64 ((0 : Nat) : Int)), .val (.int .i64 (c : Int))]⟩, ⟨vb, .obj [.ref 3 v0 6 0 0, .val (.int .i64 (c : Int)), .val (.int .i64 (c : Int))]⟩, ⟨v0, .obj [.own 4 v1 1 0 s.l.length, .val (.int .i64 (s.k : Int)), .val (.int .i64 s.ar), .val (.int .i64 s.pt), .val (.bool s.dd), .val (.int .i64 s.wr)]⟩, ⟨v1, .bytes s.l⟩] []) := by
 (
 have hbd := look_bound g pa hS
 have hus := look_used g pa hS
 have hfw := look_few g pa hS
 have hnw := now0 s c g pa pb hd hi l e b hS vs va vb v0 v1
 refine spec_entry tbOk Tryz.func46 rfl Tryz.ntmps46 Tryz.results46 ?_
 refine gg (k := ?_)
 refine cmks (hnw) Tryz.call54 (he := ⟨fun _ => ⟨rfl, rfl, trivial, trivial⟩, trivial, fun _ => ⟨rfl, rfl, trivial, trivial⟩, trivial⟩) 5 [0, 1, 2, 3, 4, 0, 0, 0, 0, 0, 0, 0, 0, 0, 0, 0, 0, 0, 0, 0, 0, 0, 0, 0, 0, 0, 0, 0, 0, 0, 10, 11, 12] [0, 0, 0, 0, 0, 0, 0, 0, 0, 0, 0, 0, 0, 0, 0, 0, 0, 0, 0, 0, 0, 0, 0, 0, 0, 0, 0, 0, 0, 0, 1, 1, 1] [30, 31, 32] ?_
 refine gg (k := ?_)
 refine cmks (used_vc (RRel.kept l) (by omega) (by have := (keptK_sub (l.map rkOf)).length_le; rw [List.length_map] at this; omega) s 0 c l (e : Int) b (keptR l l.length).length 4 4 (l.length + 4) va v0 v1 rfl) Tryz.call72 (hrows := ⟨⟨fun _ => ⟨(by show 1 < 6; decide), (by show 1 < 6; decide), trivial, trivial⟩, rfl⟩, ⟨trivial, rfl⟩, ⟨fun _ => ⟨(by show 1 < 6; decide), (by show 1 < 6; decide), trivial, trivial⟩, rfl⟩, ⟨⟨(by show 4 < 6; decide), trivial, trivial, trivial⟩, rfl⟩, ⟨⟨(by show 5 < 6; decide), trivial, trivial, trivial, trivial, trivial, trivial⟩, rfl⟩, ⟨trivial, rfl⟩, trivial⟩) (hr2 := ⟨fun _ => ⟨rfl, rfl, trivial, trivial⟩, trivial, fun _ => ⟨rfl, rfl, trivial, trivial⟩, ⟨rfl, trivial, trivial, trivial⟩, ⟨rfl, trivial, trivial, trivial, trivial, trivial, trivial⟩, trivial, trivial⟩) 6 [12, 11, 10, 1, 3, 4] [0, 0, 0, 0, 0, 0] [] ?_
 refine gg (k := ?_)
 exact ⟨_, rfl, rfl, trivial⟩)
theorem used1 {W : Int} {n k : Nat} (s : FlS) (c : Nat) (g : Goes W n k s) (pa : Lies n k 0 c) (pb : Lies n k c c) (hd : s.dd = false) (hi : (s.cnt c).1 = 1) {l : List Rc} {e : Nat} {b : Bool} (hS : s.scan c c = (l, e, b)) (vs va vb v0 v1 : Nat) : Spec Tryz.prog 46 [.ref 0 vs 3 0 0] [⟨vs, .obj [.ref 3 v0 6 0 0, .ref 1 va 3 0 0, .ref 2 vb 3 0 0]⟩, ⟨va, .obj [.ref 3 v0 6 0 0, .val (.int .i64 ((0 : Nat) : Int)), .val (.int .i64 (c : Int))]⟩, ⟨vb, .obj [.ref 3 v0 6 0 0, .val (.int .i64 (c : Int)), .val (.int .i64 (c : Int))]⟩, ⟨v0, .obj [.own 4 v1 1 0 s.l.length, .val (.int .i64 (s.k : Int)), .val (.int .i64 s.ar), .val (.int .i64 s.pt), .val (.bool s.dd), .val (.int .i64 s.wr)]⟩, ⟨v1, .bytes s.l⟩]
   (pms (.tup [.val (.int .i64 (usedK (keptK (l.map rkOf)) : Int)), .val (.int .i64 0)]) [⟨vs, .obj [.ref 3 v0 6 0 0, .ref 1 va 3 0 0, .ref 2 vb 3 0 0]⟩, ⟨va, .obj [.ref 3 v0 6 0 0, .val (.int .i64 ((0 : Nat) : Int)), .val (.int .i64 (c : Int))]⟩, ⟨vb, .obj [.ref 3 v0 6 0 0, .val (.int .i64 (c : Int)), .val (.int .i64 (c : Int))]⟩, ⟨v0, .obj [.own 4 v1 1 0 s.l.length, .val (.int .i64 (s.k : Int)), .val (.int .i64 s.ar), .val (.int .i64 s.pt), .val (.bool s.dd), .val (.int .i64 s.wr)]⟩, ⟨v1, .bytes s.l⟩] []) := by
 (
 have hbd := look_bound g pb hS
 have hus := look_used g pb hS
 have hfw := look_few g pb hS
 have hnw := now1 s c g pa pb hd hi l e b hS vs va vb v0 v1
 refine spec_entry tbOk Tryz.func46 rfl Tryz.ntmps46 Tryz.results46 ?_
 refine gg (k := ?_)
 refine cmks (hnw) Tryz.call54 (he := ⟨fun _ => ⟨rfl, rfl, trivial, trivial⟩, trivial, fun _ => ⟨rfl, rfl, trivial, trivial⟩, trivial⟩) 5 [0, 1, 2, 3, 4, 0, 0, 0, 0, 0, 0, 0, 0, 0, 0, 0, 0, 0, 0, 0, 0, 0, 0, 0, 0, 0, 0, 0, 0, 0, 10, 11, 12] [0, 0, 0, 0, 0, 0, 0, 0, 0, 0, 0, 0, 0, 0, 0, 0, 0, 0, 0, 0, 0, 0, 0, 0, 0, 0, 0, 0, 0, 0, 1, 1, 1] [30, 31, 32] ?_
 refine gg (k := ?_)
 refine cmks (used_vc (RRel.kept l) (by omega) (by have := (keptK_sub (l.map rkOf)).length_le; rw [List.length_map] at this; omega) s c c l (e : Int) b (keptR l l.length).length 4 4 (l.length + 4) vb v0 v1 rfl) Tryz.call72 (hrows := ⟨⟨fun _ => ⟨(by show 1 < 6; decide), (by show 1 < 6; decide), trivial, trivial⟩, rfl⟩, ⟨trivial, rfl⟩, ⟨fun _ => ⟨(by show 1 < 6; decide), (by show 1 < 6; decide), trivial, trivial⟩, rfl⟩, ⟨⟨(by show 4 < 6; decide), trivial, trivial, trivial⟩, rfl⟩, ⟨⟨(by show 5 < 6; decide), trivial, trivial, trivial, trivial, trivial, trivial⟩, rfl⟩, ⟨trivial, rfl⟩, trivial⟩) (hr2 := ⟨fun _ => ⟨rfl, rfl, trivial, trivial⟩, trivial, fun _ => ⟨rfl, rfl, trivial, trivial⟩, ⟨rfl, trivial, trivial, trivial⟩, ⟨rfl, trivial, trivial, trivial, trivial, trivial, trivial⟩, trivial, trivial⟩) 6 [12, 11, 10, 2, 3, 4] [0, 0, 0, 0, 0, 0] [] ?_
 refine gg (k := ?_)
 exact ⟨_, rfl, rfl, trivial⟩)
theorem used_map {W : Int} {n k : Nat} (s : FlS) (c : Nat) {M : List RK} (m : LK s c M) (g : Goes W n k s) (pa : Lies n k 0 c) (pb : Lies n k c c) (vs va vb v0 v1 : Nat) : Spec Tryz.prog 46 [.ref 0 vs 3 0 0] [⟨vs, .obj [.ref 3 v0 6 0 0, .ref 1 va 3 0 0, .ref 2 vb 3 0 0]⟩, ⟨va, .obj [.ref 3 v0 6 0 0, .val (.int .i64 ((0 : Nat) : Int)), .val (.int .i64 (c : Int))]⟩, ⟨vb, .obj [.ref 3 v0 6 0 0, .val (.int .i64 (c : Int)), .val (.int .i64 (c : Int))]⟩, ⟨v0, .obj [.own 4 v1 1 0 s.l.length, .val (.int .i64 (s.k : Int)), .val (.int .i64 s.ar), .val (.int .i64 s.pt), .val (.bool s.dd), .val (.int .i64 s.wr)]⟩, ⟨v1, .bytes s.l⟩]
   (pms (.tup [.val (.int .i64 (usedK M : Int)), .val (.int .i64 0)]) [⟨vs, .obj [.ref 3 v0 6 0 0, .ref 1 va 3 0 0, .ref 2 vb 3 0 0]⟩, ⟨va, .obj [.ref 3 v0 6 0 0, .val (.int .i64 ((0 : Nat) : Int)), .val (.int .i64 (c : Int))]⟩, ⟨vb, .obj [.ref 3 v0 6 0 0, .val (.int .i64 (c : Int)), .val (.int .i64 (c : Int))]⟩, ⟨v0, .obj [.own 4 v1 1 0 s.l.length, .val (.int .i64 (s.k : Int)), .val (.int .i64 s.ar), .val (.int .i64 s.pt), .val (.bool s.dd), .val (.int .i64 s.wr)]⟩, ⟨v1, .bytes s.l⟩] []) := by
 obtain ⟨i, l, e, b, hi, hci, hS, hkp⟩ := m.kept
 rcases hi with rfl | rfl
 ·simp only [Nat.zero_mul] at hS
  have := used0 s c g pa pb m.live hci hS vs va vb v0 v1
  rw [hkp] at this
  exact this
 ·simp only [Nat.one_mul] at hS
  have := used1 s c g pa pb m.live hci hS vs va vb v0 v1
  rw [hkp] at this
  exact this
end
end Go.Proofs.YtmjpbmcbcppkfaaGreatDoor
namespace Go.Proofs.YtmjpbmcbcppkfaaGreatDoor
open Go.RowKit
set_option linter.unusedVariables false
set_option linter.unusedSimpArgs false
set_option maxRecDepth 100000
set_option maxHeartbeats 1500000
section
theorem kused_vc {W : Int} {n k : Nat} (s : FlS) (c : Nat) {M : List RK} (m : LK s c M) (go : Goes W n k s) (pa : Lies n k 0 c) (pb : Lies n k c c) (vk vs va vb v0 v1 : Nat) : Spec Tryz.prog 27 [.ref 0 vk 1 0 0] [⟨vk, .obj [.ref 1 vs 3 0 0]⟩, ⟨vs, .obj [.ref 4 v0 6 0 0, .ref 2 va 3 0 0, .ref 3 vb 3 0 0]⟩, ⟨va, .obj [.ref 4 v0 6 0 0, .val (.int .i64 ((0 : Nat) : Int)), .val (.int .i64 (c : Int))]⟩, ⟨vb, .obj [.ref 4 v0 6 0 0, .val (.int .i64 (c : Int)), .val (.int .i64 (c : Int))]⟩, ⟨v0, .obj [.own 5 v1 1 0 s.l.length, .val (.int .i64 (s.k : Int)), .val (.int .i64 s.ar), .val (.int .i64 s.pt), .val (.bool s.dd), .val (.int .i64 s.wr)]⟩, ⟨v1, .bytes s.l⟩]
   (pms (.tup [.val (.int .i64 (usedK M : Int)), .val (.int .i64 0)]) [⟨vk, .obj [.ref 1 vs 3 0 0]⟩, ⟨vs, .obj [.ref 4 v0 6 0 0, .ref 2 va 3 0 0, .ref 3 vb 3 0 0]⟩, ⟨va, .obj [.ref 4 v0 6 0 0, .val (.int .i64 ((0 : Nat) : Int)), .val (.int .i64 (c : Int))]⟩, ⟨vb, .obj [.ref 4 v0 6 0 0, .val (.int .i64 (c : Int)), .val (.int .i64 (c : Int))]⟩, ⟨v0, .obj [.own 5 v1 1 0 s.l.length, .val (.int .i64 (s.k : Int)), .val (.int .i64 s.ar), .val (.int .i64 s.pt), .val (.bool s.dd), .val (.int .i64 s.wr)]⟩, ⟨v1, .bytes s.l⟩] []) := by
 have hus := used_map s c m go pa pb vs va vb v0 v1
 clear m
 refine spec_entry tbOk Tryz.func27 rfl Tryz.ntmps27 Tryz.results27 ?_
 refine gg (k := ?_)
 refine cmks (hus) Tryz.call46 5 [1, 2, 3, 4, 5] [0, 0, 0, 0, 0] [] ?_
 refine gg (k := ?_)
 exact ⟨_, rfl, rfl, trivial⟩
theorem kroom_vc {W : Int} {n k : Nat} (s : FlS) (c : Nat) (go : Goes W n k s) (pa : Lies n k 0 c) (vk vs va vb v0 v1 : Nat) : Spec Tryz.prog 28 [.ref 0 vk 1 0 0] [⟨vk, .obj [.ref 1 vs 3 0 0]⟩, ⟨vs, .obj [.ref 4 v0 6 0 0, .ref 2 va 3 0 0, .ref 3 vb 3 0 0]⟩, ⟨va, .obj [.ref 4 v0 6 0 0, .val (.int .i64 ((0 : Nat) : Int)), .val (.int .i64 (c : Int))]⟩, ⟨vb, .obj [.ref 4 v0 6 0 0, .val (.int .i64 (c : Int)), .val (.int .i64 (c : Int))]⟩, ⟨v0, .obj [.own 5 v1 1 0 s.l.length, .val (.int .i64 (s.k : Int)), .val (.int .i64 s.ar), .val (.int .i64 s.pt), .val (.bool s.dd), .val (.int .i64 s.wr)]⟩, ⟨v1, .bytes s.l⟩]
   (pms (.val (.int .i64 ((c : Int) * (s.k : Int) - 16))) [⟨vk, .obj [.ref 1 vs 3 0 0]⟩, ⟨vs, .obj [.ref 4 v0 6 0 0, .ref 2 va 3 0 0, .ref 3 vb 3 0 0]⟩, ⟨va, .obj [.ref 4 v0 6 0 0, .val (.int .i64 ((0 : Nat) : Int)), .val (.int .i64 (c : Int))]⟩, ⟨vb, .obj [.ref 4 v0 6 0 0, .val (.int .i64 (c : Int)), .val (.int .i64 (c : Int))]⟩, ⟨v0, .obj [.own 5 v1 1 0 s.l.length, .val (.int .i64 (s.k : Int)), .val (.int .i64 s.ar), .val (.int .i64 s.pt), .val (.bool s.dd), .val (.int .i64 s.wr)]⟩, ⟨v1, .bytes s.l⟩] []) := by
 refine spec_entry tbOk Tryz.func28 rfl Tryz.ntmps28 Tryz.results28 ?_
 refine gg (k := ?_)
 refine cmks (sroom_vc s c go pa vs va vb v0 v1) Tryz.call47 5 [1, 2, 3, 4, 5] [0, 0, 0, 0, 0] [] ?_
 refine gg (k := ?_)
 exact ⟨_, rfl, rfl, trivial⟩
end
end Go.Proofs.YtmjpbmcbcppkfaaGreatDoor
namespace Go.Proofs.YtmjpbmcbcppkfaaGreatDoor
open Go.RowKit
set_option linter.unusedVariables false
set_option linter.unusedSimpArgs false
set_option maxRecDepth 100000
set_option maxHeartbeats 1500000
section
variable {s : FlS} {y i : Nat} {M : List RK}
theorem vinfo_vc (h : PB s y i M) (vv vk vs va vb v0 v1 : Nat) : Spec Tryz.prog 11 [.ref 0 vv 1 0 0] [⟨vv, .obj [.ref 1 vk 1 0 0]⟩, ⟨vk, .obj [.ref 2 vs 3 0 0]⟩, ⟨vs, .obj [.ref 5 v0 6 0 0, .ref 3 va 3 0 0, .ref 4 vb 3 0 0]⟩, ⟨va, .obj [.ref 5 v0 6 0 0, .val (.int .i64 ((0 : Nat) : Int)), .val (.int .i64 ((1 : Nat) : Int))]⟩, ⟨vb, .obj [.ref 5 v0 6 0 0, .val (.int .i64 ((1 : Nat) : Int)), .val (.int .i64 ((1 : Nat) : Int))]⟩, ⟨v0, .obj [.own 6 v1 1 0 s.l.length, .val (.int .i64 (s.k : Int)), .val (.int .i64 s.ar), .val (.int .i64 s.pt), .val (.bool s.dd), .val (.int .i64 s.wr)]⟩, ⟨v1, .bytes s.l⟩]
   (pms (.tup [.val (.int .i64 ((y : Int) - 16)), .val (.int .i64 (usedK M : Int)), .val (.int .i64 0)]) [⟨vv, .obj [.ref 1 vk 1 0 0]⟩, ⟨vk, .obj [.ref 2 vs 3 0 0]⟩, ⟨vs, .obj [.ref 5 v0 6 0 0, .ref 3 va 3 0 0, .ref 4 vb 3 0 0]⟩, ⟨va, .obj [.ref 5 v0 6 0 0, .val (.int .i64 ((0 : Nat) : Int)), .val (.int .i64 ((1 : Nat) : Int))]⟩, ⟨vb, .obj [.ref 5 v0 6 0 0, .val (.int .i64 ((1 : Nat) : Int)), .val (.int .i64 ((1 : Nat) : Int))]⟩, ⟨v0, .obj [.own 6 v1 1 0 s.l.length, .val (.int .i64 (s.k : Int)), .val (.int .i64 s.ar), .val (.int .i64 s.pt), .val (.bool s.dd), .val (.int .i64 s.wr)]⟩, ⟨v1, .bytes s.l⟩] []) := by
 have hU := kused_vc s 1 h.lk h.go (lie0 h.hy) (lie1 h.hy) vk vs va vb v0 v1
 have hR := kroom_vc s 1 h.go (lie0 h.hy) vk vs va vb v0 v1
 rw [show ((1 : Nat) : Int) * (s.k : Int) = (y : Int) by rw [h.go.k]; omega] at hR
 generalize usedK M = u at hU
 clear h
 refine spec_entry tbOk Tryz.func11 rfl Tryz.ntmps11 Tryz.results11 ?_
 refine gg (k := ?_)
 refine cmks (hU) Tryz.call27 6 [1, 2, 3, 4, 5, 6] [0, 0, 0, 0, 0, 0] [] ?_
 refine gg (k := ?_)
 refine cmks (hR) Tryz.call28 6 [1, 2, 3, 4, 5, 6] [0, 0, 0, 0, 0, 0] [] ?_
 refine gg (k := ?_)
 exact ⟨_, rfl, rfl, trivial⟩
end
end Go.Proofs.YtmjpbmcbcppkfaaGreatDoor
namespace Go.Proofs.YtmjpbmcbcppkfaaGreatDoor
open Go.RowKit Go.ChangeShapes Go.WideShapes Go.ChangeAt
set_option linter.unusedVariables false
set_option linter.unusedSimpArgs false
set_option maxRecDepth 100000
set_option maxHeartbeats 1500000
section
theorem bounds_u16 {n : Int} (h : (Lit.int .u16 n).wf = true) : 0 ≤ n ∧ n ≤ 65535 := by
 simp [Lit.wf, IntKind.min, IntKind.max, IntKind.signed, IntKind.bits] at h; omega
end
end Go.Proofs.YtmjpbmcbcppkfaaGreatDoor
