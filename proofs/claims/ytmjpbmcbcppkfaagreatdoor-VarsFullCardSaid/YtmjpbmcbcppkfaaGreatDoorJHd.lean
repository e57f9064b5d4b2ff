/- Walks of nvram: Get. Walks of nvram: Set. Conditions: the premises of each law. -/
import Derived.Test.YtmjpbmcbcppkfaaGreatDoorJHc
namespace Go.Proofs.YtmjpbmcbcppkfaaGreatDoor
open Go.RowKit
set_option linter.unusedVariables false
set_option linter.unusedSimpArgs false
set_option maxRecDepth 100000
set_option maxHeartbeats 1500000
theorem last_bs {rs : List Rr} {ps : List (List UInt8)} {la : List RK} (h : RRel rs ps la) (hb : (∀ r ∈ la, r.key.length ≤ 140737488355328 ∧ r.val.length ≤ 140737488355328) ∧ la.length ≤ 140737488355328) (z : Nat) (key : List UInt8) (na va wa : Nat) (hna : na = rs.length) :
    Spec Tryz.prog 55 [.own 0 va 3 0 na, .bs z key] [⟨va, .row 3 (rrA 1 wa) ⟨0, 0, 0, false⟩ rs⟩, ⟨wa, .pool ps⟩]
     (pms (.val (.int .i64 (lastK la key))) [⟨va, .row 3 (rrA 1 wa) ⟨0, 0, 0, false⟩ rs⟩, ⟨wa, .pool ps⟩] []) :=
 spec_ro (last_vc 0 0 la key (fun r hr => (hb.1 r hr).1) hb.2) trivial trivial (rows := [⟨va, .row 3 (rrA 1 wa) ⟨0, 0, 0, false⟩ rs⟩, ⟨wa, .pool ps⟩]) (args := [.own 0 va 3 0 na, .bs z key])
  (asL_cons (as_recs h rfl rfl hna) (asL_cons as_bs asL_nil))
theorem getN0 {W : Int} {n k : Nat} (s : FlS) (c : Nat) (g : Goes W n k s) (pa : Lies n k 0 c) (pb : Lies n k c c) (hd : s.dd = false) (hi : (s.cnt c).1 = 0) {l : List Rc} {e : Nat} {b : Bool} (hS : s.scan 0 c = (l, e, b)) (z : Nat) (key : List UInt8) (hk : lastK (l.map rkOf) key < 0) (vs va vb v0 v1 : Nat) : Spec Tryz.prog 39 [.ref 0 vs 3 0 0, .bs z key] [⟨vs, .obj [.ref 3 v0 6 0 0, .ref 1 va 3 0 0, .ref 2 vb 3 0 0]⟩, ⟨va, .obj [.ref 3 v0 6 0 0, .val (.int .i64 ((0 : Nat) : Int)), .val (.int .i64 (c : Int))]⟩, ⟨vb, .obj [.ref 3 v0 6 0 0, .val (.int .i64 (c : Int)), .val (.int .i64 (c : Int))]⟩, ⟨v0, .obj [.own 4 v1 1 0 s.l.length, .val (.int .i64 (s.k : Int)), .val (.int .i64 s.ar), .val (.int .i64 s.pt), .val (.bool s.dd), .val (.int .i64 s.wr)]⟩, ⟨v1, .bytes s.l⟩]
   (pms (.tup [.val (.slice none 0 0), .val (.bool false), .val (.int .i64 0)]) [⟨vs, .obj [.ref 3 v0 6 0 0, .ref 1 va 3 0 0, .ref 2 vb 3 0 0]⟩, ⟨va, .obj [.ref 3 v0 6 0 0, .val (.int .i64 ((0 : Nat) : Int)), .val (.int .i64 (c : Int))]⟩, ⟨vb, .obj [.ref 3 v0 6 0 0, .val (.int .i64 (c : Int)), .val (.int .i64 (c : Int))]⟩, ⟨v0, .obj [.own 4 v1 1 0 s.l.length, .val (.int .i64 (s.k : Int)), .val (.int .i64 s.ar), .val (.int .i64 s.pt), .val (.bool s.dd), .val (.int .i64 s.wr)]⟩, ⟨v1, .bytes s.l⟩] []) := by
 have hbd := look_bound g pa hS
 have hnw := now0 s c g pa pb hd hi l e b hS vs va vb v0 v1
 refine spec_entry tbOk Tryz.func39 rfl Tryz.ntmps39 Tryz.results39 ?_
 refine gg (k := ?_)
 refine cmks (hnw) Tryz.call54 (he := ⟨fun _ => ⟨rfl, rfl, trivial, trivial⟩, trivial, fun _ => ⟨rfl, rfl, trivial, trivial⟩, trivial⟩) 5 [0, 1, 2, 3, 4, 0, 0, 0, 0, 0, 0, 0, 0, 0, 0, 0, 0, 0, 0, 0, 0, 0, 0, 0, 0, 0, 0, 0, 0, 0, 20, 21, 22] [0, 0, 0, 0, 0, 0, 0, 0, 0, 0, 0, 0, 0, 0, 0, 0, 0, 0, 0, 0, 0, 0, 0, 0, 0, 0, 0, 0, 0, 0, 1, 1, 1] [30, 31, 32] ?_
 refine gg (k := ?_)
 refine cmks (last_bs (RRel.of l) hbd z key l.length (l.length + 4) 4 (rrOf_len l 0).symm) Tryz.call55 (hrows := ⟨⟨fun _ => ⟨Nat.lt_succ_self 1, Nat.lt_succ_self 1, trivial, trivial⟩, rfl⟩, ⟨trivial, rfl⟩, trivial⟩) (hr2 := ⟨fun _ => ⟨rfl, rfl, trivial, trivial⟩, trivial, trivial⟩) 2 [20, 21] [0, 0] [] ?_
 generalize lastK (l.map rkOf) key = L at hk
 refine gg (k := ?_)
 exact ⟨_, rfl, rfl, trivial⟩
theorem getS0 {W : Int} {n k : Nat} (s : FlS) (c : Nat) (g : Goes W n k s) (pa : Lies n k 0 c) (pb : Lies n k c c) (hd : s.dd = false) (hi : (s.cnt c).1 = 0) {l : List Rc} {e : Nat} {b : Bool} (hS : s.scan 0 c = (l, e, b)) (z : Nat) (key : List UInt8) (j : Nat) (d : Rc) (hj : l[j]? = some d) (hk : lastK (l.map rkOf) key = (j : Int)) (vs va vb v0 v1 : Nat) : Spec Tryz.prog 39 [.ref 0 vs 3 0 0, .bs z key] [⟨vs, .obj [.ref 3 v0 6 0 0, .ref 1 va 3 0 0, .ref 2 vb 3 0 0]⟩, ⟨va, .obj [.ref 3 v0 6 0 0, .val (.int .i64 ((0 : Nat) : Int)), .val (.int .i64 (c : Int))]⟩, ⟨vb, .obj [.ref 3 v0 6 0 0, .val (.int .i64 (c : Int)), .val (.int .i64 (c : Int))]⟩, ⟨v0, .obj [.own 4 v1 1 0 s.l.length, .val (.int .i64 (s.k : Int)), .val (.int .i64 s.ar), .val (.int .i64 s.pt), .val (.bool s.dd), .val (.int .i64 s.wr)]⟩, ⟨v1, .bytes s.l⟩]
   (pms (.tup [.pl 21 4 (2 * j + 1) 0 d.val.length, .val (.bool true), .val (.int .i64 0)]) [⟨vs, .obj [.ref 3 v0 6 0 0, .ref 1 va 3 0 0, .ref 2 vb 3 0 0]⟩, ⟨va, .obj [.ref 3 v0 6 0 0, .val (.int .i64 ((0 : Nat) : Int)), .val (.int .i64 (c : Int))]⟩, ⟨vb, .obj [.ref 3 v0 6 0 0, .val (.int .i64 (c : Int)), .val (.int .i64 (c : Int))]⟩, ⟨v0, .obj [.own 4 v1 1 0 s.l.length, .val (.int .i64 (s.k : Int)), .val (.int .i64 s.ar), .val (.int .i64 s.pt), .val (.bool s.dd), .val (.int .i64 s.wr)]⟩, ⟨v1, .bytes s.l⟩] [(21, ⟨4, .pool (poolOf l)⟩)]) := by
 have hbd := look_bound g pa hS
 have hnw := now0 s c g pa pb hd hi l e b hS vs va vb v0 v1
 have hr : (rrOf 0 l).getD j ⟨0, 0, 0, false⟩ = ⟨2 * j, d.key.length, d.val.length, d.lv⟩ := by rw [List.getD_eq_getElem?_getD, rrOf_get l 0 j d hj, Nat.zero_add]; rfl
 have hjl : j < l.length := (List.getElem?_eq_some_iff.1 hj).1
 have hrl : (rrOf 0 l).length = l.length := rrOf_len l 0
 refine spec_entry tbOk Tryz.func39 rfl Tryz.ntmps39 Tryz.results39 ?_
 refine gg (k := ?_)
 refine cmks (hnw) Tryz.call54 (he := ⟨fun _ => ⟨rfl, rfl, trivial, trivial⟩, trivial, fun _ => ⟨rfl, rfl, trivial, trivial⟩, trivial⟩) 5 [0, 1, 2, 3, 4, 0, 0, 0, 0, 0, 0, 0, 0, 0, 0, 0, 0, 0, 0, 0, 0, 0, 0, 0, 0, 0, 0, 0, 0, 0, 20, 21, 22] [0, 0, 0, 0, 0, 0, 0, 0, 0, 0, 0, 0, 0, 0, 0, 0, 0, 0, 0, 0, 0, 0, 0, 0, 0, 0, 0, 0, 0, 0, 1, 1, 1] [30, 31, 32] ?_
 refine gg (k := ?_)
 refine cmks (last_bs (RRel.of l) hbd z key l.length (l.length + 4) 4 (rrOf_len l 0).symm) Tryz.call55 (hrows := ⟨⟨fun _ => ⟨Nat.lt_succ_self 1, Nat.lt_succ_self 1, trivial, trivial⟩, rfl⟩, ⟨trivial, rfl⟩, trivial⟩) (hr2 := ⟨fun _ => ⟨rfl, rfl, trivial, trivial⟩, trivial, trivial⟩) 2 [20, 21] [0, 0] [] ?_
 rw [hk]
 refine gg (k := ?_)
 simp only [Int.toNat_natCast, Nat.zero_add, hr]
 refine gg (k := ?_)
 exact ⟨_, rfl, rfl, rfl, trivial⟩
theorem getN1 {W : Int} {n k : Nat} (s : FlS) (c : Nat) (g : Goes W n k s) (pa : Lies n k 0 c) (pb : Lies n k c c) (hd : s.dd = false) (hi : (s.cnt c).1 = 1) {l : List Rc} {e : Nat} {b : Bool} (hS : s.scan c c = (l, e, b)) (z : Nat) (key : List UInt8) (hk : lastK (l.map rkOf) key < 0) (vs va vb v0 v1 : Nat) : Spec Tryz.prog 39 [.ref 0 vs 3 0 0, .bs z key] [⟨vs, .obj [.ref 3 v0 6 0 0, .ref 1 va 3 0 0, .ref 2 vb 3 0 0]⟩, ⟨va, .obj [.ref 3 v0 6 0 0, .val (.int .i64 ((0 : Nat) : Int)), .val (.int .i64 (c : Int))]⟩, ⟨vb, .obj [.ref 3 v0 6 0 0, .val (.int .i64 (c : Int)), .val (.int .i64 (c : Int))]⟩, ⟨v0, .obj [.own 4 v1 1 0 s.l.length, .val (.int .i64 (s.k : Int)), .val (.int .i64 s.ar), .val (.int .i64 s.pt), .val (.bool s.dd), .val (.int .i64 s.wr)]⟩, ⟨v1, .bytes s.l⟩]
   (pms (.tup [.val (.slice none 0 0), .val (.bool false), .val (.int .i64 0)]) [⟨vs, .obj [.ref 3 v0 6 0 0, .ref 1 va 3 0 0, .ref 2 vb 3 0 0]⟩, ⟨va, .obj [.ref 3 v0 6 0 0, .val (.int .i64 ((0 : Nat) : Int)), .val (.int .i64 (c : Int))]⟩, ⟨vb, .obj [.ref 3 v0 6 0 0, .val (.int .i64 (c : Int)), .val (.int .i64 (c : Int))]⟩, ⟨v0, .obj [.own 4 v1 1 0 s.l.length, .val (.int .i64 (s.k : Int)), .val (.int .i64 s.ar), .val (.int .i64 s.pt), .val (.bool s.dd), .val (.int .i64 s.wr)]⟩, ⟨v1, .bytes s.l⟩] []) := by
 have hbd := look_bound g pb hS
 have hnw := now1 s c g pa pb hd hi l e b hS vs va vb v0 v1
 refine spec_entry tbOk Tryz.func39 rfl Tryz.ntmps39 Tryz.results39 ?_
 refine gg (k := ?_)
 refine cmks (hnw) Tryz.call54 (he := ⟨fun _ => ⟨rfl, rfl, trivial, trivial⟩, trivial, fun _ => ⟨rfl, rfl, trivial, trivial⟩, trivial⟩) 5 [0, 1, 2, 3, 4, 0, 0, 0, 0, 0, 0, 0, 0, 0, 0, 0, 0, 0, 0, 0, 0, 0, 0, 0, 0, 0, 0, 0, 0, 0, 20, 21, 22] [0, 0, 0, 0, 0, 0, 0, 0, 0, 0, 0, 0, 0, 0, 0, 0, 0, 0, 0, 0, 0, 0, 0, 0, 0, 0, 0, 0, 0, 0, 1, 1, 1] [30, 31, 32] ?_
 refine gg (k := ?_)
 refine cmks (last_bs (RRel.of l) hbd z key l.length (l.length + 4) 4 (rrOf_len l 0).symm) Tryz.call55 (hrows := ⟨⟨fun _ => ⟨Nat.lt_succ_self 1, Nat.lt_succ_self 1, trivial, trivial⟩, rfl⟩, ⟨trivial, rfl⟩, trivial⟩) (hr2 := ⟨fun _ => ⟨rfl, rfl, trivial, trivial⟩, trivial, trivial⟩) 2 [20, 21] [0, 0] [] ?_
 generalize lastK (l.map rkOf) key = L at hk
 refine gg (k := ?_)
 exact ⟨_, rfl, rfl, trivial⟩
theorem getS1 {W : Int} {n k : Nat} (s : FlS) (c : Nat) (g : Goes W n k s) (pa : Lies n k 0 c) (pb : Lies n k c c) (hd : s.dd = false) (hi : (s.cnt c).1 = 1) {l : List Rc} {e : Nat} {b : Bool} (hS : s.scan c c = (l, e, b)) (z : Nat) (key : List UInt8) (j : Nat) (d : Rc) (hj : l[j]? = some d) (hk : lastK (l.map rkOf) key = (j : Int)) (vs va vb v0 v1 : Nat) : Spec Tryz.prog 39 [.ref 0 vs 3 0 0, .bs z key] [⟨vs, .obj [.ref 3 v0 6 0 0, .ref 1 va 3 0 0, .ref 2 vb 3 0 0]⟩, ⟨va, .obj [.ref 3 v0 6 0 0, .val (.int .i64 ((0 : Nat) : Int)), .val (.int .i64 (c : Int))]⟩, ⟨vb, .obj [.ref 3 v0 6 0 0, .val (.int .i64 (c : Int)), .val (.int .i64 (c : Int))]⟩, ⟨v0, .obj [.own 4 v1 1 0 s.l.length, .val (.int .i64 (s.k : Int)), .val (.int .i64 s.ar), .val (.int .i64 s.pt), .val (.bool s.dd), .val (.int .i64 s.wr)]⟩, ⟨v1, .bytes s.l⟩]
   (pms (.tup [.pl 21 4 (2 * j + 1) 0 d.val.length, .val (.bool true), .val (.int .i64 0)]) [⟨vs, .obj [.ref 3 v0 6 0 0, .ref 1 va 3 0 0, .ref 2 vb 3 0 0]⟩, ⟨va, .obj [.ref 3 v0 6 0 0, .val (.int .i64 ((0 : Nat) : Int)), .val (.int .i64 (c : Int))]⟩, ⟨vb, .obj [.ref 3 v0 6 0 0, .val (.int .i64 (c : Int)), .val (.int .i64 (c : Int))]⟩, ⟨v0, .obj [.own 4 v1 1 0 s.l.length, .val (.int .i64 (s.k : Int)), .val (.int .i64 s.ar), .val (.int .i64 s.pt), .val (.bool s.dd), .val (.int .i64 s.wr)]⟩, ⟨v1, .bytes s.l⟩] [(21, ⟨4, .pool (poolOf l)⟩)]) := by
 have hbd := look_bound g pb hS
 have hnw := now1 s c g pa pb hd hi l e b hS vs va vb v0 v1
 have hr : (rrOf 0 l).getD j ⟨0, 0, 0, false⟩ = ⟨2 * j, d.key.length, d.val.length, d.lv⟩ := by rw [List.getD_eq_getElem?_getD, rrOf_get l 0 j d hj, Nat.zero_add]; rfl
 have hjl : j < l.length := (List.getElem?_eq_some_iff.1 hj).1
 have hrl : (rrOf 0 l).length = l.length := rrOf_len l 0
 refine spec_entry tbOk Tryz.func39 rfl Tryz.ntmps39 Tryz.results39 ?_
 refine gg (k := ?_)
 refine cmks (hnw) Tryz.call54 (he := ⟨fun _ => ⟨rfl, rfl, trivial, trivial⟩, trivial, fun _ => ⟨rfl, rfl, trivial, trivial⟩, trivial⟩) 5 [0, 1, 2, 3, 4, 0, 0, 0, 0, 0, 0, 0, 0, 0, 0, 0, 0, 0, 0, 0, 0, 0, 0, 0, 0, 0, 0, 0, 0, 0, 20, 21, 22] [0, 0, 0, 0, 0, 0, 0, 0, 0, 0, 0, 0, 0, 0, 0, 0, 0, 0, 0, 0, 0, 0, 0, 0, 0, 0, 0, 0, 0, 0, 1, 1, 1] [30, 31, 32] ?_
 refine gg (k := ?_)
 refine cmks (last_bs (RRel.of l) hbd z key l.length (l.length + 4) 4 (rrOf_len l 0).symm) Tryz.call55 (hrows := ⟨⟨fun _ => ⟨Nat.lt_succ_self 1, Nat.lt_succ_self 1, trivial, trivial⟩, rfl⟩, ⟨trivial, rfl⟩, trivial⟩) (hr2 := ⟨fun _ => ⟨rfl, rfl, trivial, trivial⟩, trivial, trivial⟩) 2 [20, 21] [0, 0] [] ?_
 rw [hk]
 refine gg (k := ?_)
 simp only [Int.toNat_natCast, Nat.zero_add, hr]
 refine gg (k := ?_)
 exact ⟨_, rfl, rfl, rfl, trivial⟩
end Go.Proofs.YtmjpbmcbcppkfaaGreatDoor
namespace Go.Proofs.YtmjpbmcbcppkfaaGreatDoor
open Go.RowKit
set_option linter.unusedVariables false
set_option linter.unusedSimpArgs false
set_option maxRecDepth 100000
set_option maxHeartbeats 1500000
theorem scan_used (x : List UInt8) : ∀ (n a : Nat), x.length - a = n → usedK ((scanG x a).1.map rkOf) ≤ n := by
 intro n
 induction n using Nat.strongRecOn with
 | _ n ih =>
  intro a ha
  by_cases h : a < x.length ∧ x.getD a 0 ≠ 255
  ·by_cases hr : recIs (x.drop a)
   ·rw [scanG_some h hr]
    have hN := recN_pos (x.drop a)
    have hx := hr.2.2.2.2.2.1
    rw [List.length_drop] at hx
    have h2 := ih (x.length - (a + recN (x.drop a))) (by omega) (a + recN (x.drop a)) rfl
    have hk : (recKey (x.drop a)).length + (recVal (x.drop a)).length + 12 ≤ recN (x.drop a) := by
     unfold recKey recVal
     rw [List.length_drop, List.length_drop, List.length_take, List.length_take, List.length_drop]
     have e1 : recN (x.drop a) = 12 + recK (x.drop a) + recV (x.drop a) := rfl
     omega
    simp only [List.map_cons, usedK, rkOf]
    omega
   ·rw [scanG_bad h hr]
    exact Nat.zero_le _
  ·rw [scanG_end h]
   exact Nat.zero_le _
theorem usedK_sub {a b : List RK} (h : a.Sublist b) : usedK a ≤ usedK b := by
 induction h with
 | slnil => exact Nat.le_refl _
 | cons x _ ih => simp only [usedK]; omega
 | cons_cons x _ ih => simp only [usedK]; omega
theorem kept_sub (l : List RK) : ∀ n : Nat, n ≤ l.length → ((keptI l n).map fun j => l.getD j rk0).Sublist (l.take n)
 | 0, _ => by simp [keptI]
 | n + 1, h => by
  have ih := kept_sub l n (by omega)
  rw [keptI_succ, List.map_append, List.take_succ_eq_append_getElem (by omega)]
  refine List.Sublist.append ih ?_
  split
  ·rw [List.map_cons, List.map_nil, List.getD_eq_getElem?_getD, List.getElem?_eq_getElem (by omega)]
   exact List.Sublist.refl _
  ·exact List.nil_sublist _
theorem keptK_sub (l : List RK) : (keptK l).Sublist l := by
 have := kept_sub l l.length (Nat.le_refl _)
 rw [List.take_length] at this
 exact this
theorem RRel.kept (l : List Rc) : RRel (keptR l l.length) (poolOf l) (keptK (l.map rkOf)) := by
 have h := RRel.of l
 refine ⟨by simp [keptR, keptK], fun i x y hx hy => ?_⟩
 unfold keptR at hx
 unfold keptK at hy
 rw [List.length_map] at hy
 rw [List.getElem?_map] at hx hy
 obtain ⟨j, hj, rfl⟩ := Option.map_eq_some_iff.1 hx
 obtain ⟨j', hj', rfl⟩ := Option.map_eq_some_iff.1 hy
 rw [hj] at hj'
 obtain rfl := Option.some.inj hj'
 have hjl : j < l.length := by
  have := List.mem_of_getElem? hj
  unfold keptI at this
  exact List.mem_range.1 (List.mem_filter.1 this).1
 refine h.el j _ _ ?_ ?_
 ·rw [List.getD_eq_getElem?_getD, List.getElem?_eq_getElem (by rw [rrOf_len]; exact hjl)]; rfl
 ·rw [List.getD_eq_getElem?_getD, List.getElem?_eq_getElem (by rw [List.length_map]; exact hjl)]; rfl
theorem look_used {W : Int} {n k : Nat} {s : FlS} {a c : Nat} (g : Goes W n k s) (p : Lies n k a c) {l : List Rc} {e : Nat} {b : Bool} (hS : s.scan a c = (l, e, b)) : usedK (keptK (l.map rkOf)) ≤ 4194304 := by
 have hgl := g.len
 have hbk2 : (s.bank a c).length ≤ 4194304 := by unfold FlS.bank; rw [List.length_take, List.length_drop, g.l]; omega
 have h1 := scan_used (s.bank a c) _ 16 rfl
 rw [show scanG (s.bank a c) 16 = (l, e, b) from hS] at h1
 have h2 := usedK_sub (keptK_sub (l.map rkOf))
 simp only at h1
 omega
end Go.Proofs.YtmjpbmcbcppkfaaGreatDoor
