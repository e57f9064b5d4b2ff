/- Records in rows and pools, as slices; what a scan may tell. A store: the bank that counts, its records, the last one of each key, and what is done with it: plain definitions. Walks of nvram: last, counts. Walks of nvram: now's closure, over the records. Conditions: the premises of each law. -/
import Derived.Test.YtmjpbmcbcppkfaaGreatDoorJGp
import Derived.Test.YtmjpbmcbcppkfaaGreatDoorJGl
namespace Go.Proofs.YtmjpbmcbcppkfaaGreatDoor
open Go.RowKit
set_option linter.unusedVariables false
set_option linter.unusedSimpArgs false
set_option maxRecDepth 100000
set_option maxHeartbeats 1500000
theorem as_slG {rows : List Ent} {r ver sz n : Nat} {α β : Type} {f : α → List AV} {d : α} {l0 : List α} {g : β → List AV} {d' : β} {ls : List β} (he : getL rows r = some ⟨ver, .row sz f d l0⟩) (hn : n = l0.length) (hl : ls.length = n)
    (hel : ∀ (i : Nat) (x : α) (y : β), l0[i]? = some x → ls[i]? = some y → AsL rows (f x) (g y)) : As rows (.own r ver sz 0 n) (.sl 0 sz g d' ls) := fun E E0 w v hr hz h => by
 rw [getL_eq] at he
 simp only [Go.Proofs.YtmjpbmcbcppkfaaGreatDoor.rep] at h ⊢
 obtain ⟨a, c, rfl, h2, h3, h4, h5⟩ := h.2 (hr.ver r _ he).symm
 refine ⟨a, n, c, rfl, hl.symm, h2, h3, h4, fun i x hx => ?_⟩
 have hi := (List.getElem?_eq_some_iff.1 hx).1
 obtain ⟨hna, rfl, _⟩ := h5.resolve_left (by omega)
 have hliv : Liv E r ⟨ver, .row sz f d l0⟩ := ⟨rfl, hna⟩
 obtain ⟨cur, T, lo, hi', g1, g2, g3, g4⟩ := (hr.ent r _ he hliv).blk rfl
 have hi0 : i < l0.length := by omega
 obtain ⟨cs, k1, k2, k3⟩ := g4 i (f l0[i]) (by simp only [Bd.at]; rw [List.getElem?_eq_getElem hi0]; rfl)
 refine ⟨_, _, cs, rfl, (hz 0 _).2 ⟨rfl, hr.lt he hliv⟩, k1, hel i _ x (List.getElem?_eq_getElem hi0) hx E E0 w cs hr hz k2, fun j u hu => ?_⟩
 rw [cell_of_row w _ _ cur T (lo, hi') g1, Nat.zero_mul, Nat.zero_add]
 exact k3 j u hu
section
variable {s : FlS} {a c : Nat} {P H : List UInt8} {l : List Rc} {m : Nat} {Q : List UInt8}
end
structure RK where
 key : List UInt8
 val : List UInt8
 lv : Bool
 deriving DecidableEq
def rkOf (c : Rc) : RK := ⟨c.key, c.val, c.lv⟩
theorem poolOf_get : ∀ (l : List Rc) (i : Nat) (c : Rc), l[i]? = some c → (poolOf l)[2 * i]? = some c.key ∧ (poolOf l)[2 * i + 1]? = some c.val
 | [], i, c, h => by simp at h
 | d :: l, 0, c, h => by
  obtain rfl : d = c := by simpa using h
  exact ⟨rfl, rfl⟩
 | d :: l, i + 1, c, h => poolOf_get l i c (by simpa using h)
theorem rrOf_get : ∀ (l : List Rc) (j i : Nat) (c : Rc), l[i]? = some c → (rrOf j l)[i]? = some ⟨j + 2 * i, c.key.length, c.val.length, c.lv⟩
 | [], j, i, c, h => by simp at h
 | d :: l, j, 0, c, h => by
  obtain rfl : d = c := by simpa using h
  rfl
 | d :: l, j, i + 1, c, h => by
  rw [rrOf, List.getElem?_cons_succ, rrOf_get l (j + 2) i c (by simpa using h)]
  congr 2; omega
def recA (z : Nat) (r : RK) : List AV := [.bs z r.key, .bs z r.val, .val (.bool r.lv)]
def rk0 : RK := ⟨[], [], false⟩
theorem scan_bound (x : List UInt8) : ∀ (n a : Nat), x.length - a = n → (∀ r ∈ (scanG x a).1, r.key.length ≤ x.length ∧ r.val.length ≤ x.length) ∧ (scanG x a).1.length ≤ n := by
 intro n
 induction n using Nat.strongRecOn with
 | _ n ih =>
  intro a ha
  by_cases h : a < x.length ∧ x.getD a 0 ≠ 255
  ·by_cases hr : recIs (x.drop a)
   ·rw [scanG_some h hr]
    have hN := recN_pos (x.drop a)
    have hx := hr.2.2.2.2.2.1
    rw [List.length_drop] at hx
    obtain ⟨h1, h2⟩ := ih (x.length - (a + recN (x.drop a))) (by omega) (a + recN (x.drop a)) rfl
    refine ⟨fun r hm => ?_, by simp only [List.length_cons]; omega⟩
    rcases List.mem_cons.1 hm with rfl | hm
    ·constructor
     ·show (recKey (x.drop a)).length ≤ x.length
      unfold recKey; simp only [List.length_drop, List.length_take]; omega
     ·show (recVal (x.drop a)).length ≤ x.length
      unfold recVal; simp only [List.length_drop, List.length_take]; omega
    ·exact h1 r hm
   ·rw [scanG_bad h hr]
    exact ⟨by simp, Nat.zero_le _⟩
  ·rw [scanG_end h]
   exact ⟨by simp, Nat.zero_le _⟩
structure RRel (rs : List Rr) (ps : List (List UInt8)) (ls : List RK) : Prop where
 len : rs.length = ls.length
 el : ∀ (i : Nat) (x : Rr) (y : RK), rs[i]? = some x → ls[i]? = some y → ps[x.i]? = some y.key ∧ x.kn = y.key.length ∧ ps[x.i + 1]? = some y.val ∧ x.vn = y.val.length ∧ x.lv = y.lv
theorem RRel.of (l : List Rc) : RRel (rrOf 0 l) (poolOf l) (l.map rkOf) := by
 refine ⟨by rw [rrOf_len, List.length_map], fun i x y hx hy => ?_⟩
 rw [List.getElem?_map] at hy
 obtain ⟨c, hc, rfl⟩ := Option.map_eq_some_iff.1 hy
 obtain ⟨p0, p1⟩ := poolOf_get l i c hc
 rw [rrOf_get l 0 i c hc, Nat.zero_add] at hx
 obtain rfl := Option.some.inj hx
 exact ⟨p0, rfl, p1, rfl, rfl⟩
theorem RRel.set {rs : List Rr} {ps : List (List UInt8)} {ls : List RK} (h : RRel rs ps ls) (i : Nat) (b : Bool) (d : Rr) (e : RK) : RRel (rs.set i ⟨(rs.getD i d).i, (rs.getD i d).kn, (rs.getD i d).vn, b⟩) ps (ls.set i ⟨(ls.getD i e).key, (ls.getD i e).val, b⟩) := by
 refine ⟨by simp [h.len], fun j x y hx hy => ?_⟩
 have hl := h.len
 by_cases hj : i = j
 ·subst hj
  have hi : i < rs.length := by
   have := (List.getElem?_eq_some_iff.1 hx).1
   simpa using this
  have hi2 : i < ls.length := by omega
  rw [List.getElem?_set_self hi] at hx
  rw [List.getElem?_set_self hi2] at hy
  obtain rfl := Option.some.inj hx
  obtain rfl := Option.some.inj hy
  have e1 : rs[i]? = some (rs.getD i d) := by rw [List.getD_eq_getElem?_getD, List.getElem?_eq_getElem hi]; rfl
  have e2 : ls[i]? = some (ls.getD i e) := by rw [List.getD_eq_getElem?_getD, List.getElem?_eq_getElem hi2]; rfl
  obtain ⟨q1, q2, q3, q4, _⟩ := h.el i _ _ e1 e2
  exact ⟨q1, q2, q3, q4, rfl⟩
 ·rw [List.getElem?_set_ne hj] at hx hy
  exact h.el j x y hx hy
theorem as_recs {rows : List Ent} {r v q w n : Nat} {rs : List Rr} {ps : List (List UInt8)} {ls : List RK} (h : RRel rs ps ls) (he : getL rows r = some ⟨v, .row 3 (rrA q w) ⟨0, 0, 0, false⟩ rs⟩) (hp : getL rows q = some ⟨w, .pool ps⟩) (hn : n = rs.length) : As rows (.own r v 3 0 n) (.sl 0 3 (recA 0) rk0 ls) := by
 refine as_slG he hn (by rw [hn, h.len]) fun i x y hx hy => ?_
 obtain ⟨q1, q2, q3, q4, q5⟩ := h.el i x y hx hy
 have a1 := as_pl (off := 0) (n := y.key.length) hp q1 (by omega)
 have a2 := as_pl (off := 0) (n := y.val.length) hp q3 (by omega)
 rw [whole] at a1 a2
 unfold rrA recA
 rw [q2, q4, q5]
 exact asL_cons a1 (asL_cons a2 (asL_cons as_val asL_nil))
theorem look_bound {W : Int} {n k : Nat} {s : FlS} {a c : Nat} (g : Goes W n k s) (p : Lies n k a c) {l : List Rc} {e : Nat} {b : Bool} (hS : s.scan a c = (l, e, b)) : (∀ r ∈ l.map rkOf, r.key.length ≤ 140737488355328 ∧ r.val.length ≤ 140737488355328) ∧ (l.map rkOf).length ≤ 140737488355328 := by
 have hb := g.bok p
 have hbl := hb.len
 have hgl := g.len
 have hbk2 : (s.bank a c).length ≤ 4194304 := by unfold FlS.bank; rw [List.length_take, List.length_drop, g.l]; omega
 have hsb := scan_bound (s.bank a c) _ 16 rfl
 rw [show scanG (s.bank a c) 16 = (l, e, b) from hS] at hsb
 obtain ⟨hs1, hs2⟩ := hsb
 simp only at hs1 hs2
 refine ⟨fun r hr => ?_, by rw [List.length_map]; omega⟩
 obtain ⟨c, hc, rfl⟩ := List.mem_map.1 hr
 have := hs1 c hc
 unfold rkOf
 simp only
 omega
theorem look_few {W : Int} {n k : Nat} {s : FlS} {a c : Nat} (g : Goes W n k s) (p : Lies n k a c) {l : List Rc} {e : Nat} {b : Bool} (hS : s.scan a c = (l, e, b)) : l.length ≤ 4194304 := by
 have hgl := g.len
 have hbk2 : (s.bank a c).length ≤ 4194304 := by unfold FlS.bank; rw [List.length_take, List.length_drop, g.l]; omega
 have hsb := (scan_bound (s.bank a c) _ 16 rfl).2
 rw [show scanG (s.bank a c) 16 = (l, e, b) from hS] at hsb
 simp only at hsb
 omega
theorem spec_dead_b (s : FlS) (b : Bool) (h : s.dd = b) (v0 v1 : Nat) : Spec Tryz.prog 76 [.ref 0 v0 6 0 0] [⟨v0, .obj [.own 1 v1 1 0 s.l.length, .val (.int .i64 (s.k : Int)), .val (.int .i64 s.ar), .val (.int .i64 s.pt), .val (.bool s.dd), .val (.int .i64 s.wr)]⟩, ⟨v1, .bytes s.l⟩] (pst (.val (.bool b)) [⟨v0, .obj [.own 1 v1 1 0 s.l.length, .val (.int .i64 (s.k : Int)), .val (.int .i64 s.ar), .val (.int .i64 s.pt), .val (.bool s.dd), .val (.int .i64 s.wr)]⟩, ⟨v1, .bytes s.l⟩]) := by
 subst h
 exact spec_dead s v0 v1
end Go.Proofs.YtmjpbmcbcppkfaaGreatDoor
namespace Go.Proofs.YtmjpbmcbcppkfaaGreatDoor
set_option linter.unusedVariables false
set_option linter.unusedSimpArgs false
def lastI (l : List RK) (key : List UInt8) : Nat → Int
 | 0 => -1
 | n + 1 => if (l.getD n rk0).lv = true ∧ (l.getD n rk0).key = key then (n : Int) else lastI l key n
def lastK (l : List RK) (key : List UInt8) : Int := lastI l key l.length
theorem lastI_lt (l : List RK) (key : List UInt8) : ∀ n : Nat, -1 ≤ lastI l key n ∧ lastI l key n < n
 | 0 => by simp [lastI]
 | n + 1 => by
  have := lastI_lt l key n
  unfold lastI
  split <;> omega
def keepB (l : List RK) (j : Nat) : Bool := decide (lastK l (l.getD j rk0).key = (j : Int))
def keptI (l : List RK) (n : Nat) : List Nat := (List.range n).filter (keepB l)
def keptK (l : List RK) : List RK := (keptI l l.length).map fun j => l.getD j rk0
theorem keptI_succ (l : List RK) (n : Nat) : keptI l (n + 1) = keptI l n ++ if keepB l n then [n] else [] := by
 unfold keptI
 rw [List.range_succ, List.filter_append]
 congr 1
 cases h : keepB l n <;> simp [h]
theorem keptI_len (l : List RK) (n : Nat) : (keptI l n).length ≤ n := by
 have := List.length_filter_le (keepB l) (List.range n)
 simpa [keptI] using this
def usedK : List RK → Nat
 | [] => 0
 | r :: l => 12 + r.key.length + r.val.length + usedK l
def FlS.cnt (s : FlS) (c : Nat) : Nat × Int × Bool := if (s.head c).2.1 = true ∧ ((s.head 0).2.1 = false ∨ (s.head 0).1 < (s.head c).1) then (1, (s.head c).1, (s.head c).2.1) else (0, (s.head 0).1, (s.head 0).2.1)
def FlS.recs (s : FlS) (c : Nat) : List Rc × Nat × Bool := s.scan ((s.cnt c).1 * c) c
def FlS.recK (s : FlS) (c : Nat) : List RK := (s.recs c).1.map rkOf
def FlS.adds (s : FlS) (a c : Nat) : List RK → Int × FlS
 | [] => (0, s)
 | r :: l => if (s.add a c r.key r.val).1 = 0 then (s.add a c r.key r.val).2.adds a c l else s.add a c r.key r.val
def FlS.bgn (s : FlS) (a c : Nat) (g : Int) (l : List RK) : Int × FlS :=
 if (s.format a c g).1 = 0 then
  if ((s.format a c g).2.adds a c l).1 = 0 then ((s.format a c g).2.adds a c l).2.prog ((a : Int) * (((s.format a c g).2.adds a c l).2.k : Int) + 12) [254]
  else (s.format a c g).2.adds a c l
 else s.format a c g
def FlS.copy (s : FlS) (c : Nat) (l : List RK) : Int × FlS := if (s.cnt c).2.1 = 4294967295 then (12, s) else s.bgn ((1 - (s.cnt c).1) * c) c ((s.cnt c).2.1 + 1) l
def FlS.tidyL (s : FlS) (a c : Nat) (l : List RK) (k : Nat) : Nat → Int × FlS
 | 0 => (0, s)
 | m + 1 => if (l.getD k rk0).lv = true ∧ lastK l (l.getD k rk0).key ≠ (k : Int) then
     if (s.kill a c (k : Int)).1 = 0 then (s.kill a c (k : Int)).2.tidyL a c l (k + 1) m else s.kill a c (k : Int)
  else s.tidyL a c l (k + 1) m
def FlS.tidy (s : FlS) (c : Nat) : Int × FlS := if s.dd then (6, s) else s.tidyL ((s.cnt c).1 * c) c (s.recK c) 0 (s.recK c).length
def FlS.put (s : FlS) (c : Nat) (key val : List UInt8) : Int × FlS :=
 if (s.add ((s.cnt c).1 * c) c key val).1 = 0 then
  if 0 ≤ lastK (s.recK c) key then (s.add ((s.cnt c).1 * c) c key val).2.kill ((s.cnt c).1 * c) c (lastK (s.recK c) key)
  else (0, (s.add ((s.cnt c).1 * c) c key val).2)
 else s.add ((s.cnt c).1 * c) c key val
def FlS.set (s : FlS) (c : Nat) (key val : List UInt8) : Int × FlS :=
 if key.length < 1 ∨ 255 < key.length ∨ 65536 < val.length then (1, s)
 else if s.dd then (6, s)
 else if (c : Int) * s.k - 16 < usedK (keptK (s.recK c)) + (12 + key.length + val.length) then (5, s)
 else if (s.recs c).2.2 = false ∨ (c : Int) * s.k - 16 + 16 - ((s.recs c).2.1 : Int) < 12 + key.length + val.length then
  if (s.copy c (keptK (s.recK c))).1 = 0 then
   if (s.copy c (keptK (s.recK c))).2.dd then (6, (s.copy c (keptK (s.recK c))).2) else (s.copy c (keptK (s.recK c))).2.put c key val
  else s.copy c (keptK (s.recK c))
 else s.put c key val
def FlS.del (s : FlS) (c : Nat) (key : List UInt8) : Int × FlS :=
 if s.dd then (6, s) else if lastK (s.recK c) key < 0 then (3, s) else s.kill ((s.cnt c).1 * c) c (lastK (s.recK c) key)
def FlS.opn (s : FlS) (c : Nat) : Int × FlS :=
 if s.dd then (6, s)
 else if (s.cnt c).2.2 = false then
  if (s.bgn 0 c 1 []).1 = 0 then (s.bgn 0 c 1 []).2.tidy c else s.bgn 0 c 1 []
 else s.tidy c
end Go.Proofs.YtmjpbmcbcppkfaaGreatDoor
namespace Go.Proofs.YtmjpbmcbcppkfaaGreatDoor
open Go.RowKit
set_option linter.unusedVariables false
set_option linter.unusedSimpArgs false
set_option maxRecDepth 100000
set_option maxHeartbeats 1500000
theorem last_vc (z z' : Nat) (l : List RK) (key : List UInt8) (hb : ∀ r ∈ l, r.key.length ≤ 140737488355328) (hl : l.length ≤ 140737488355328) : Spec Tryz.prog 55 [.sl z 3 (recA z) rk0 l, .bs z' key] [] (pms (.val (.int .i64 (lastK l key))) [] []) := by
 obtain ⟨L, hL⟩ : ∃ L, lastK l key = L := ⟨_, rfl⟩
 rw [hL]
 refine spec_entry tbOk Tryz.func55 rfl Tryz.ntmps55 Tryz.results55 ?_
 refine gg (k := ?_)
 (refine sts (k := ?_))
 conv => whnf
 refine loop_at (fun m : Nat => m ≤ l.length ∧ L = lastI l key m) (fun m => m) 0 [4, 5, 9, 10, 11, 12, 13, 14, 15, 16, 17, 18, 19, 20, 21, 22, 23, 24, 25, 26, 27] (fun m => [(5, .val (.int .i64 ((m : Int) - 1)))]) (fun m => []) l.length ⟨Nat.le_refl _, hL.symm⟩ ?_ ?_ ?_
 ·exact no_implicit_lambda% ten
 ·exact no_implicit_lambda% hen
 ·rintro m v ⟨i1, i2⟩
  refine glp (k := ?_)
  refine gg (k := ?_)
  refine ⟨fun h => ?_, fun h => ?_⟩
  ·obtain ⟨j, rfl⟩ : ∃ j, m = j + 1 := ⟨m - 1, by have := of_decide_eq_true h; omega⟩
   have hj : ((j + 1 : Nat) : Int) - 1 = (j : Int) := by omega
   have hmem : l.getD j rk0 ∈ l := by rw [List.getD_eq_getElem?_getD, List.getElem?_eq_getElem (by omega)]; exact List.getElem_mem _
   have hk := hb _ hmem
   rw [lastI] at i2
   generalize hx : l.getD j rk0 = x at hk i2
   obtain ⟨xk, xv, xl⟩ := x
   simp only at hk i2
   rw [hj]
   refine gg (k := ?_)
   simp only [Int.toNat_natCast, hx]
   cases xl with
   | false =>
    rw [if_neg (by simp)] at i2
    refine gg (k := ?_)
    (try simp only [Int.toNat_natCast, hx])
    refine gg (k := ?_)
    intro _
    refine gg (k := ?_)
    refine back_at j ⟨by omega, i2⟩ (by show j < j + 1; omega) ?_ ?_
    ·exact no_implicit_lambda% ten
    ·exact no_implicit_lambda% hen
   | true =>
    refine gg (k := ?_)
    (try simp only [Int.toNat_natCast, hx])
    refine gg (k := ?_)
    refine cdet (equal_vc xk key z z') Tryz.call92 [] ?_
    by_cases hkk : xk = key
    ·rw [if_pos ⟨rfl, hkk⟩] at i2
     subst i2
     rw [decide_eq_true hkk]
     refine gg (k := ?_)
     exact ⟨_, rfl, rfl, trivial⟩
    ·rw [if_neg (fun q => hkk q.2)] at i2
     rw [decide_eq_false hkk]
     refine gg (k := ?_)
     refine back_at j ⟨by omega, i2⟩ (by show j < j + 1; omega) ?_ ?_
     ·exact no_implicit_lambda% ten
     ·exact no_implicit_lambda% hen
  ·have hm : m = 0 := by have := of_decide_eq_false h; omega
   subst hm
   obtain rfl : L = -1 := i2
   refine gg (k := ?_)
   exact ⟨_, rfl, rfl, trivial⟩
theorem counts_vc {W : Int} {n k : Nat} (s : FlS) (c : Nat) (g : Goes W n k s) (pa : Lies n k 0 c) (pb : Lies n k c c) (vs va vb v0 v1 : Nat) : Spec Tryz.prog 78 [.ref 0 vs 3 0 0] [⟨vs, .obj [.ref 3 v0 6 0 0, .ref 1 va 3 0 0, .ref 2 vb 3 0 0]⟩, ⟨va, .obj [.ref 3 v0 6 0 0, .val (.int .i64 ((0 : Nat) : Int)), .val (.int .i64 (c : Int))]⟩, ⟨vb, .obj [.ref 3 v0 6 0 0, .val (.int .i64 (c : Int)), .val (.int .i64 (c : Int))]⟩, ⟨v0, .obj [.own 4 v1 1 0 s.l.length, .val (.int .i64 (s.k : Int)), .val (.int .i64 s.ar), .val (.int .i64 s.pt), .val (.bool s.dd), .val (.int .i64 s.wr)]⟩, ⟨v1, .bytes s.l⟩]
   (pms (.tup [.val (.int .i64 ((s.cnt c).1 : Int)), .val (.int .u32 (s.cnt c).2.1), .val (.bool (s.cnt c).2.2)]) [⟨vs, .obj [.ref 3 v0 6 0 0, .ref 1 va 3 0 0, .ref 2 vb 3 0 0]⟩, ⟨va, .obj [.ref 3 v0 6 0 0, .val (.int .i64 ((0 : Nat) : Int)), .val (.int .i64 (c : Int))]⟩, ⟨vb, .obj [.ref 3 v0 6 0 0, .val (.int .i64 (c : Int)), .val (.int .i64 (c : Int))]⟩, ⟨v0, .obj [.own 4 v1 1 0 s.l.length, .val (.int .i64 (s.k : Int)), .val (.int .i64 s.ar), .val (.int .i64 s.pt), .val (.bool s.dd), .val (.int .i64 s.wr)]⟩, ⟨v1, .bytes s.l⟩] []) := by
 refine spec_entry tbOk Tryz.func78 rfl Tryz.ntmps78 Tryz.results78 ?_
 have hb0 := bhead_vc s 0 c g pa va v0 v1
 have hb1 := bhead_vc s c c g pb vb v0 v1
 unfold FlS.cnt
 generalize s.head 0 = h0 at hb0 ⊢
 generalize s.head c = h1 at hb1 ⊢
 obtain ⟨g0, r0, e0⟩ := h0
 obtain ⟨g1, r1, e1⟩ := h1
 simp only at hb0 hb1 ⊢
 refine gg (k := ?_)
 (refine sts (k := ?_))
 conv => whnf
 refine loop_at (fun i : Nat => i ≤ 2) (fun i => 2 - i) 5 [7, 8, 13, 14, 15, 16, 17, 18, 19, 20, 21, 22, 23, 24, 25, 26, 27] (fun i => [(13, .val (.int .i64 (i : Int)))]) (fun i => [(10, ⟨1, .obj [.val (.int .u32 (if i = 0 then 0 else g0)), .val (.int .u32 (if i = 2 then g1 else 0))]⟩), (11, ⟨1, .obj [.val (.bool (if i = 0 then false else r0)), .val (.bool (if i = 2 then r1 else false))]⟩)]) 0 (by decide) ?_ ?_ ?_
 ·exact no_implicit_lambda% ten
 ·exact no_implicit_lambda% hen
 ·rintro i v i1
  refine glp (k := ?_)
  refine gg (k := ?_)
  refine ⟨fun h => ?_, fun h => ?_⟩
  ·obtain rfl | rfl : i = 0 ∨ i = 1 := by have := of_decide_eq_true h; omega
   ·refine gg (k := ?_)
    refine cmks (hb0) Tryz.call114 3 [1, 3, 4] [0, 0, 0] [] ?_
    refine gg (k := ?_)
    refine back_at 1 (by decide) (by show 2 - 1 < 2 - 0; decide) ?_ ?_
    ·exact no_implicit_lambda% ten
    ·exact no_implicit_lambda% hen
   ·refine gg (k := ?_)
    refine cmks (hb1) Tryz.call114 3 [2, 3, 4] [0, 0, 0] [] ?_
    refine gg (k := ?_)
    refine back_at 2 (by decide) (by show 2 - 2 < 2 - 1; decide) ?_ ?_
    ·exact no_implicit_lambda% ten
    ·exact no_implicit_lambda% hen
  ·obtain rfl : i = 2 := by have := of_decide_eq_false h; omega
   simp only [show (if (2 : Nat) = 0 then (0 : Int) else g0) = g0 from rfl, show (if (2 : Nat) = 2 then g1 else (0 : Int)) = g1 from rfl, show (if (2 : Nat) = 0 then false else r0) = r0 from rfl, show (if (2 : Nat) = 2 then r1 else false) = r1 from rfl, if_true]
   cases r1 with
   | false =>
    rw [if_neg (by simp)]
    refine gg (k := ?_)
    (
 (refine sts (k := ?_))
 refine draw_of (p := 5) tbOk hm [0, 0, 2, 6, 0, 16, 48, 19, 159, 511] [⟨0, false, false, []⟩, ⟨1, false, false, []⟩, ⟨2, true, false, [42, 45, 46, 47, 48, 2, 3, 4]⟩, ⟨3, true, false, [42, 46, 47, 48, 2, 3, 4]⟩, ⟨4, false, false, []⟩, ⟨5, true, false, [42, 43, 44, 45, 48, 2, 3, 4]⟩, ⟨6, true, false, [42, 43, 44, 45, 2, 3, 4]⟩, ⟨7, false, false, []⟩, ⟨8, false, false, []⟩, ⟨9, false, false, []⟩] (by kernel_rfl) ?_
 refine gg (k := ?_)
 exact ⟨_, rfl, rfl, trivial⟩)
   | true =>
   cases r0 with
   | false =>
    rw [if_pos (by simp)]
    refine gg (k := ?_)
    refine ⟨fun _ => ?_, fun h => absurd h (by simp)⟩
    refine gg (k := ?_)
    (
 (refine sts (k := ?_))
 refine draw_of (p := 5) tbOk hm [0, 0, 2, 6, 0, 16, 48, 19, 159, 511] [⟨0, false, false, []⟩, ⟨1, false, false, []⟩, ⟨2, true, false, [42, 45, 46, 47, 48, 2, 3, 4]⟩, ⟨3, true, false, [42, 46, 47, 48, 2, 3, 4]⟩, ⟨4, false, false, []⟩, ⟨5, true, false, [42, 43, 44, 45, 48, 2, 3, 4]⟩, ⟨6, true, false, [42, 43, 44, 45, 2, 3, 4]⟩, ⟨7, false, false, []⟩, ⟨8, false, false, []⟩, ⟨9, false, false, []⟩] (by kernel_rfl) ?_
 refine gg (k := ?_)
 exact ⟨_, rfl, rfl, trivial⟩)
   | true =>
   by_cases hg : g0 < g1
   ·rw [if_pos ⟨rfl, .inr hg⟩]
    have hd : decide (g0 < g1) = true := decide_eq_true hg
    refine gg (k := ?_)
    rw [hd]
    refine gg (k := ?_)
    (
 (refine sts (k := ?_))
 refine draw_of (p := 5) tbOk hm [0, 0, 2, 6, 0, 16, 48, 19, 159, 511] [⟨0, false, false, []⟩, ⟨1, false, false, []⟩, ⟨2, true, false, [42, 45, 46, 47, 48, 2, 3, 4]⟩, ⟨3, true, false, [42, 46, 47, 48, 2, 3, 4]⟩, ⟨4, false, false, []⟩, ⟨5, true, false, [42, 43, 44, 45, 48, 2, 3, 4]⟩, ⟨6, true, false, [42, 43, 44, 45, 2, 3, 4]⟩, ⟨7, false, false, []⟩, ⟨8, false, false, []⟩, ⟨9, false, false, []⟩] (by kernel_rfl) ?_
 refine gg (k := ?_)
 exact ⟨_, rfl, rfl, trivial⟩)
   ·rw [if_neg (by simp [hg])]
    have hd : decide (g0 < g1) = false := decide_eq_false hg
    refine gg (k := ?_)
    rw [hd]
    refine gg (k := ?_)
    (
 (refine sts (k := ?_))
 refine draw_of (p := 5) tbOk hm [0, 0, 2, 6, 0, 16, 48, 19, 159, 511] [⟨0, false, false, []⟩, ⟨1, false, false, []⟩, ⟨2, true, false, [42, 45, 46, 47, 48, 2, 3, 4]⟩, ⟨3, true, false, [42, 46, 47, 48, 2, 3, 4]⟩, ⟨4, false, false, []⟩, ⟨5, true, false, [42, 43, 44, 45, 48, 2, 3, 4]⟩, ⟨6, true, false, [42, 43, 44, 45, 2, 3, 4]⟩, ⟨7, false, false, []⟩, ⟨8, false, false, []⟩, ⟨9, false, false, []⟩] (by kernel_rfl) ?_
 refine gg (k := ?_)
 exact ⟨_, rfl, rfl, trivial⟩)
end Go.Proofs.YtmjpbmcbcppkfaaGreatDoor
namespace Go.Proofs.YtmjpbmcbcppkfaaGreatDoor
open Go.RowKit
set_option linter.unusedVariables false
set_option linter.unusedSimpArgs false
set_option maxRecDepth 100000
set_option maxHeartbeats 1500000
theorem last_own {rs : List Rr} {ps : List (List UInt8)} {la : List RK} (h : RRel rs ps la) (hb : (∀ r ∈ la, r.key.length ≤ 140737488355328 ∧ r.val.length ≤ 140737488355328) ∧ la.length ≤ 140737488355328) {i : Nat} {key : List UInt8} (hi : ps[i]? = some key) (na kn va wa : Nat) (hna : na = rs.length) (hkn : kn = key.length) :
    Spec Tryz.prog 55 [.own 0 va 3 0 na, .pl 1 wa i 0 kn] [⟨va, .row 3 (rrA 1 wa) ⟨0, 0, 0, false⟩ rs⟩, ⟨wa, .pool ps⟩]
     (pms (.val (.int .i64 (lastK la key))) [⟨va, .row 3 (rrA 1 wa) ⟨0, 0, 0, false⟩ rs⟩, ⟨wa, .pool ps⟩] []) := by
 have a := as_pl (rows := [⟨va, .row 3 (rrA 1 wa) ⟨0, 0, 0, false⟩ rs⟩, ⟨wa, .pool ps⟩]) (r := 1) (off := 0) (n := kn) rfl hi (by omega)
 rw [hkn, whole, ← hkn] at a
 exact spec_ro (last_vc 0 0 la key (fun r hr => (hb.1 r hr).1) hb.2) trivial trivial (rows := [⟨va, .row 3 (rrA 1 wa) ⟨0, 0, 0, false⟩ rs⟩, ⟨wa, .pool ps⟩]) (args := [.own 0 va 3 0 na, .pl 1 wa i 0 kn])
  (asL_cons (as_recs h rfl rfl hna) (asL_cons a asL_nil))
theorem pred_vc (s : FlS) (a c : Nat) (l : List Rc) (hb : (∀ r ∈ l.map rkOf, r.key.length ≤ 140737488355328 ∧ r.val.length ≤ 140737488355328) ∧ (l.map rkOf).length ≤ 140737488355328) (j : Nat) (hj : j < l.length) (e : Int) (b : Bool) (vt vx vr vw vb v0 v1 : Nat) :
   Spec Tryz.prog 91 [.agg (rrA 3 vw ((rrOf 0 l).getD j ⟨0, 0, 0, false⟩)), .ref 0 vt 1 0 0, .ref 1 vx 5 0 0] [⟨vt, .obj [.val (.int .i64 (j : Int))]⟩, ⟨vx, .obj [.ref 4 vb 3 0 0, .own 2 vr 3 0 l.length, .val (.slice none 0 0), .val (.int .i64 e), .val (.bool b)]⟩, ⟨vr, .row 3 (rrA 3 vw) ⟨0, 0, 0, false⟩ (rrOf 0 l)⟩, ⟨vw, .pool (poolOf l)⟩, ⟨vb, .obj [.ref 5 v0 6 0 0, .val (.int .i64 (a : Int)), .val (.int .i64 (c : Int))]⟩, ⟨v0, .obj [.own 6 v1 1 0 s.l.length, .val (.int .i64 (s.k : Int)), .val (.int .i64 s.ar), .val (.int .i64 s.pt), .val (.bool s.dd), .val (.int .i64 s.wr)]⟩, ⟨v1, .bytes s.l⟩]
   (pms (.val (.bool (!keepB (l.map rkOf) j))) [⟨vt, .obj [.val (.int .i64 ((j : Int) + 1))]⟩, ⟨vx, .obj [.ref 4 vb 3 0 0, .own 2 vr 3 0 l.length, .val (.slice none 0 0), .val (.int .i64 e), .val (.bool b)]⟩, ⟨vr, .row 3 (rrA 3 vw) ⟨0, 0, 0, false⟩ (rrOf 0 l)⟩, ⟨vw, .pool (poolOf l)⟩, ⟨vb, .obj [.ref 5 v0 6 0 0, .val (.int .i64 (a : Int)), .val (.int .i64 (c : Int))]⟩, ⟨v0, .obj [.own 6 v1 1 0 s.l.length, .val (.int .i64 (s.k : Int)), .val (.int .i64 s.ar), .val (.int .i64 s.pt), .val (.bool s.dd), .val (.int .i64 s.wr)]⟩, ⟨v1, .bytes s.l⟩] []) := by
 obtain ⟨d, hd⟩ : ∃ d, l[j]? = some d := ⟨l[j], List.getElem?_eq_getElem hj⟩
 obtain ⟨p0, p1⟩ := poolOf_get l j d hd
 have hr : (rrOf 0 l).getD j ⟨0, 0, 0, false⟩ = ⟨2 * j, d.key.length, d.val.length, d.lv⟩ := by rw [List.getD_eq_getElem?_getD, rrOf_get l 0 j d hd, Nat.zero_add]; rfl
 have hjb : j < 140737488355328 := by have := hb.2; rw [List.length_map] at this; omega
 have hk : keepB (l.map rkOf) j = decide (lastK (l.map rkOf) d.key = (j : Int)) := by
  unfold keepB
  rw [List.getD_eq_getElem?_getD, List.getElem?_map, hd]; rfl
 rw [hk, hr]
 refine spec_entry tbOk Tryz.func91 rfl Tryz.ntmps91 Tryz.results91 ?_
 unfold rrA
 refine gg (k := ?_)
 (refine sts (k := ?_))
 refine draw_of (p := 7) tbOk hm [0, 1, 0, 4, 15, 0, 32, 127, 255] [⟨0, true, false, [8, 9, 10, 11, 12, 13, 14, 4]⟩, ⟨1, true, false, [9, 10, 11, 12, 13, 14, 4]⟩, ⟨2, true, false, [7, 8, 10, 11, 12, 13, 14, 4]⟩, ⟨3, true, false, [7, 8, 11, 12, 13, 14, 4]⟩, ⟨5, true, false, [7, 8, 9, 10, 11, 13, 14, 4]⟩, ⟨6, false, false, []⟩, ⟨4, true, false, [12, 13, 14, 4]⟩, ⟨7, false, false, []⟩, ⟨8, false, false, []⟩] (by kernel_rfl) ?_
 refine gg (k := ?_)
 refine cmks (last_own (RRel.of l) hb p0 l.length d.key.length vr vw (rrOf_len l 0).symm rfl) Tryz.call55 (hrows := ⟨⟨fun _ => ⟨Nat.lt_succ_self 1, Nat.lt_succ_self 1, trivial, trivial⟩, rfl⟩, ⟨trivial, rfl⟩, trivial⟩) (hr2 := ⟨fun _ => ⟨rfl, rfl, trivial, trivial⟩, trivial, trivial⟩) 2 [2, 3] [0, 0] [] ?_
 refine gg (k := ?_)
 rw [show (j : Int) + 1 - 1 = (j : Int) by omega]
 exact ⟨_, rfl, rfl, trivial⟩
theorem idx_vc (s : FlS) (a c : Nat) (l : List Rc) (hb : (∀ r ∈ l.map rkOf, r.key.length ≤ 140737488355328 ∧ r.val.length ≤ 140737488355328) ∧ (l.map rkOf).length ≤ 140737488355328) (i : Nat) (hi : i ≤ l.length) (h1 : ∀ j, j < i → keepB (l.map rkOf) j = true) (h2 : i < l.length → keepB (l.map rkOf) i = false) (e : Int) (b : Bool) (vt vx vr vw vb v0 v1 vs : Nat) :
   Spec Tryz.prog 123 [.own 7 vs 3 0 l.length, .clo 91 [.ref 0 vt 1 0 0, .ref 1 vx 5 0 0]] [⟨vt, .obj [.val (.int .i64 0)]⟩, ⟨vx, .obj [.ref 4 vb 3 0 0, .own 2 vr 3 0 l.length, .val (.slice none 0 0), .val (.int .i64 e), .val (.bool b)]⟩, ⟨vr, .row 3 (rrA 3 vw) ⟨0, 0, 0, false⟩ (rrOf 0 l)⟩, ⟨vw, .pool (poolOf l)⟩, ⟨vb, .obj [.ref 5 v0 6 0 0, .val (.int .i64 (a : Int)), .val (.int .i64 (c : Int))]⟩, ⟨v0, .obj [.own 6 v1 1 0 s.l.length, .val (.int .i64 (s.k : Int)), .val (.int .i64 s.ar), .val (.int .i64 s.pt), .val (.bool s.dd), .val (.int .i64 s.wr)]⟩, ⟨v1, .bytes s.l⟩, ⟨vs, .row 3 (rrA 3 vw) ⟨0, 0, 0, false⟩ (rrOf 0 l)⟩]
   (pms (.val (.int .i64 (if i < l.length then (i : Int) else -1))) [⟨vt, .obj [.val (.int .i64 (if i < l.length then (i : Int) + 1 else (i : Int)))]⟩, ⟨vx, .obj [.ref 4 vb 3 0 0, .own 2 vr 3 0 l.length, .val (.slice none 0 0), .val (.int .i64 e), .val (.bool b)]⟩, ⟨vr, .row 3 (rrA 3 vw) ⟨0, 0, 0, false⟩ (rrOf 0 l)⟩, ⟨vw, .pool (poolOf l)⟩, ⟨vb, .obj [.ref 5 v0 6 0 0, .val (.int .i64 (a : Int)), .val (.int .i64 (c : Int))]⟩, ⟨v0, .obj [.own 6 v1 1 0 s.l.length, .val (.int .i64 (s.k : Int)), .val (.int .i64 s.ar), .val (.int .i64 s.pt), .val (.bool s.dd), .val (.int .i64 s.wr)]⟩, ⟨v1, .bytes s.l⟩, ⟨vs, .row 3 (rrA 3 vw) ⟨0, 0, 0, false⟩ (rrOf 0 l)⟩] []) := by
 have hlb : l.length ≤ 140737488355328 := by have := hb.2; rw [List.length_map] at this; exact this
 have hrl : (rrOf 0 l).length = l.length := rrOf_len l 0
 refine spec_entry tbOk Tryz.func123 rfl Tryz.ntmps123 Tryz.results123 ?_
 refine gg (k := ?_)
 (refine sts (k := ?_))
 conv => whnf
 refine loop_at (fun j : Nat => j ≤ i) (fun j => i - j) 8 [4, 5, 8, 9, 10, 11, 12, 13, 14, 15, 16, 17, 18] (fun j => [(8, .val (.int .i64 (j : Int)))]) (fun j => [(0, ⟨vt, .obj [.val (.int .i64 (j : Int))]⟩)]) 0 (Nat.zero_le _) ?_ ?_ ?_
 ·exact no_implicit_lambda% ten
 ·exact no_implicit_lambda% hen
 ·rintro j v hj
  refine glp (k := ?_)
  refine gg (k := ?_)
  refine ⟨fun h => ?_, fun h => ?_⟩
  ·have hlt : j < l.length := by have := of_decide_eq_true h; omega
   refine gg (k := ?_)
   simp only [Int.toNat_natCast, Nat.zero_add]
   refine gg (k := ?_)
   try ((conv => whnf); (refine And.intro ⟨rfl, ⟨rfl, by rw [hrl]; exact hlt⟩, Nat.le_of_ble_eq_true rfl⟩ ?_))
   refine gg (k := ?_)
   refine cmks (pred_vc s a c l hb j hlt e b vt vx vr vw vb v0 v1) Tryz.call91 (hrows := ⟨⟨⟨trivial, trivial⟩, rfl⟩, ⟨⟨(by show 4 < 7; decide), (by show 2 < 7; decide), trivial, trivial, trivial, trivial⟩, rfl⟩, ⟨fun _ => ⟨(by show 3 < 7; decide), (by show 3 < 7; decide), trivial, trivial⟩, rfl⟩, ⟨trivial, rfl⟩, ⟨⟨(by show 5 < 7; decide), trivial, trivial, trivial⟩, rfl⟩, ⟨⟨(by show 6 < 7; decide), trivial, trivial, trivial, trivial, trivial, trivial⟩, rfl⟩, ⟨trivial, rfl⟩, trivial⟩) (hr2 := ⟨⟨trivial, trivial⟩, ⟨rfl, rfl, trivial, trivial, trivial, trivial⟩, fun _ => ⟨rfl, rfl, trivial, trivial⟩, trivial, ⟨rfl, trivial, trivial, trivial⟩, ⟨rfl, trivial, trivial, trivial, trivial, trivial, trivial⟩, trivial, trivial⟩) (hon := ⟨⟨(by show 3 < 7; decide), (by show 3 < 7; decide), trivial, trivial⟩, (by show 0 < 7; decide), (by show 1 < 7; decide), trivial⟩) 7 [0, 1, 2, 3, 4, 5, 6] [0, 0, 0, 0, 0, 0, 0] [] ?_
   by_cases hji : j < i
   ·rw [h1 j hji]
    refine gg (k := ?_)
    refine back_at (j + 1) hji (by show i - (j + 1) < i - j; omega) ?_ ?_
    ·exact no_implicit_lambda% ten
    ·exact no_implicit_lambda% hen
   ·obtain rfl : j = i := by omega
    rw [h2 hlt]
    rw [if_pos hlt, if_pos hlt]
    refine gg (k := ?_)
    exact ⟨_, rfl, rfl, trivial⟩
  ·have hjl : l.length ≤ j := by have := of_decide_eq_false h; omega
   obtain rfl : j = i := by omega
   rw [if_neg (by omega), if_neg (by omega)]
   refine gg (k := ?_)
   exact ⟨_, rfl, rfl, trivial⟩
end Go.Proofs.YtmjpbmcbcppkfaaGreatDoor
