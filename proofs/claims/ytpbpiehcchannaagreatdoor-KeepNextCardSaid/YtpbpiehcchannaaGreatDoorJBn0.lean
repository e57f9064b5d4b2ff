/- Records in rows and pools, as slices; what a scan may tell. Conditions: none. -/
import Derived.Test.YtpbpiehcchannaaGreatDoorJGp
import Derived.Test.YtpbpiehcchannaaGreatDoorJGl
namespace Go.Proofs.YtpbpiehcchannaaGreatDoor
open Go.RowKit
set_option linter.unusedVariables false
set_option linter.unusedSimpArgs false
set_option maxRecDepth 100000
set_option maxHeartbeats 1500000
theorem as_slG {rows : List Ent} {r ver sz n : Nat} {α β : Type} {f : α → List AV} {d : α} {l0 : List α} {g : β → List AV} {d' : β} {ls : List β} (he : getL rows r = some ⟨ver, .row sz f d l0⟩) (hn : n = l0.length) (hl : ls.length = n)
    (hel : ∀ (i : Nat) (x : α) (y : β), l0[i]? = some x → ls[i]? = some y → AsL rows (f x) (g y)) : As rows (.own r ver sz 0 n) (.sl 0 sz g d' ls) := fun E E0 w v hr hz h => by
 rw [getL_eq] at he
 simp only [Go.Proofs.YtpbpiehcchannaaGreatDoor.rep] at h ⊢
 obtain ⟨a, c, rfl, h2, h3, h4, h5⟩ := h.2 (hr.ver r _ he).symm
 refine ⟨a, n, c, rfl, hl.symm, h2, h3, h4, fun i x hx => ?_⟩
 have hi := (List.getElem?_eq_some_iff.1 hx).1
 obtain ⟨hna, rfl, _⟩ := h5.resolve_left (by omega)
 have hliv : Liv E r ⟨ver, .row sz f d l0⟩ := ⟨rfl, hna⟩
 obtain ⟨cur, T, lo, hi', g1, g2, g3, g4⟩ := (hr.ent r _ he hliv).blk rfl
 have hi0 : i < l0.length := by omega
 obtain ⟨cs, k1, k2, k3⟩ := g4 i (f l0[i]) (by simp only [Bd.at]; rw [List.getElem?_eq_getElem hi0]; rfl)
 refine ⟨_, _, cs, rfl, (hz 0 _).2 ⟨rfl, hr.lt he hliv⟩, k1, hel i _ x (List.getElem?_eq_getElem hi0) hx E E0 w cs hr hz k2, fun j u hu => ?_⟩
 rw [cell_of_row w _ _ cur T (lo, hi') g1, Nat.zero_mul, Nat.zero_add]
 exact k3 j u hu
section
variable {s : FlS} {a c : Nat} {P H : List UInt8} {l : List Rc} {m : Nat} {Q : List UInt8}
end
structure RK where
 key : List UInt8
 val : List UInt8
 lv : Bool
 deriving DecidableEq
def rkOf (c : Rc) : RK := ⟨c.key, c.val, c.lv⟩
theorem poolOf_get : ∀ (l : List Rc) (i : Nat) (c : Rc), l[i]? = some c → (poolOf l)[2 * i]? = some c.key ∧ (poolOf l)[2 * i + 1]? = some c.val
 | [], i, c, h => by simp at h
 | d :: l, 0, c, h => by
  obtain rfl : d = c := by simpa using h
  exact ⟨rfl, rfl⟩
 | d :: l, i + 1, c, h => poolOf_get l i c (by simpa using h)
theorem rrOf_get : ∀ (l : List Rc) (j i : Nat) (c : Rc), l[i]? = some c → (rrOf j l)[i]? = some ⟨j + 2 * i, c.key.length, c.val.length, c.lv⟩
 | [], j, i, c, h => by simp at h
 | d :: l, j, 0, c, h => by
  obtain rfl : d = c := by simpa using h
  rfl
 | d :: l, j, i + 1, c, h => by
  rw [rrOf, List.getElem?_cons_succ, rrOf_get l (j + 2) i c (by simpa using h)]
  congr 2; omega
def recA (z : Nat) (r : RK) : List AV := [.bs z r.key, .bs z r.val, .val (.bool r.lv)]
def rk0 : RK := ⟨[], [], false⟩
theorem scan_bound (x : List UInt8) : ∀ (n a : Nat), x.length - a = n → (∀ r ∈ (scanG x a).1, r.key.length ≤ x.length ∧ r.val.length ≤ x.length) ∧ (scanG x a).1.length ≤ n := by
 intro n
 induction n using Nat.strongRecOn with
 | _ n ih =>
  intro a ha
  by_cases h : a < x.length ∧ x.getD a 0 ≠ 255
  ·by_cases hr : recIs (x.drop a)
   ·rw [scanG_some h hr]
    have hN := recN_pos (x.drop a)
    have hx := hr.2.2.2.2.2.1
    rw [List.length_drop] at hx
    obtain ⟨h1, h2⟩ := ih (x.length - (a + recN (x.drop a))) (by omega) (a + recN (x.drop a)) rfl
    refine ⟨fun r hm => ?_, by simp only [List.length_cons]; omega⟩
    rcases List.mem_cons.1 hm with rfl | hm
    ·constructor
     ·show (recKey (x.drop a)).length ≤ x.length
      unfold recKey; simp only [List.length_drop, List.length_take]; omega
     ·show (recVal (x.drop a)).length ≤ x.length
      unfold recVal; simp only [List.length_drop, List.length_take]; omega
    ·exact h1 r hm
   ·rw [scanG_bad h hr]
    exact ⟨by simp, Nat.zero_le _⟩
  ·rw [scanG_end h]
   exact ⟨by simp, Nat.zero_le _⟩
structure RRel (rs : List Rr) (ps : List (List UInt8)) (ls : List RK) : Prop where
 len : rs.length = ls.length
 el : ∀ (i : Nat) (x : Rr) (y : RK), rs[i]? = some x → ls[i]? = some y → ps[x.i]? = some y.key ∧ x.kn = y.key.length ∧ ps[x.i + 1]? = some y.val ∧ x.vn = y.val.length ∧ x.lv = y.lv
theorem RRel.of (l : List Rc) : RRel (rrOf 0 l) (poolOf l) (l.map rkOf) := by
 refine ⟨by rw [rrOf_len, List.length_map], fun i x y hx hy => ?_⟩
 rw [List.getElem?_map] at hy
 obtain ⟨c, hc, rfl⟩ := Option.map_eq_some_iff.1 hy
 obtain ⟨p0, p1⟩ := poolOf_get l i c hc
 rw [rrOf_get l 0 i c hc, Nat.zero_add] at hx
 obtain rfl := Option.some.inj hx
 exact ⟨p0, rfl, p1, rfl, rfl⟩
theorem RRel.set {rs : List Rr} {ps : List (List UInt8)} {ls : List RK} (h : RRel rs ps ls) (i : Nat) (b : Bool) (d : Rr) (e : RK) : RRel (rs.set i ⟨(rs.getD i d).i, (rs.getD i d).kn, (rs.getD i d).vn, b⟩) ps (ls.set i ⟨(ls.getD i e).key, (ls.getD i e).val, b⟩) := by
 refine ⟨by simp [h.len], fun j x y hx hy => ?_⟩
 have hl := h.len
 by_cases hj : i = j
 ·subst hj
  have hi : i < rs.length := by
   have := (List.getElem?_eq_some_iff.1 hx).1
   simpa using this
  have hi2 : i < ls.length := by omega
  rw [List.getElem?_set_self hi] at hx
  rw [List.getElem?_set_self hi2] at hy
  obtain rfl := Option.some.inj hx
  obtain rfl := Option.some.inj hy
  have e1 : rs[i]? = some (rs.getD i d) := by rw [List.getD_eq_getElem?_getD, List.getElem?_eq_getElem hi]; rfl
  have e2 : ls[i]? = some (ls.getD i e) := by rw [List.getD_eq_getElem?_getD, List.getElem?_eq_getElem hi2]; rfl
  obtain ⟨q1, q2, q3, q4, _⟩ := h.el i _ _ e1 e2
  exact ⟨q1, q2, q3, q4, rfl⟩
 ·rw [List.getElem?_set_ne hj] at hx hy
  exact h.el j x y hx hy
theorem as_recs {rows : List Ent} {r v q w n : Nat} {rs : List Rr} {ps : List (List UInt8)} {ls : List RK} (h : RRel rs ps ls) (he : getL rows r = some ⟨v, .row 3 (rrA q w) ⟨0, 0, 0, false⟩ rs⟩) (hp : getL rows q = some ⟨w, .pool ps⟩) (hn : n = rs.length) : As rows (.own r v 3 0 n) (.sl 0 3 (recA 0) rk0 ls) := by
 refine as_slG he hn (by rw [hn, h.len]) fun i x y hx hy => ?_
 obtain ⟨q1, q2, q3, q4, q5⟩ := h.el i x y hx hy
 have a1 := as_pl (off := 0) (n := y.key.length) hp q1 (by omega)
 have a2 := as_pl (off := 0) (n := y.val.length) hp q3 (by omega)
 rw [whole] at a1 a2
 unfold rrA recA
 rw [q2, q4, q5]
 exact asL_cons a1 (asL_cons a2 (asL_cons as_val asL_nil))
theorem look_bound {W : Int} {n k : Nat} {s : FlS} {a c : Nat} (g : Goes W n k s) (p : Lies n k a c) {l : List Rc} {e : Nat} {b : Bool} (hS : s.scan a c = (l, e, b)) : (∀ r ∈ l.map rkOf, r.key.length ≤ 140737488355328 ∧ r.val.length ≤ 140737488355328) ∧ (l.map rkOf).length ≤ 140737488355328 := by
 have hb := g.bok p
 have hbl := hb.len
 have hgl := g.len
 have hbk2 : (s.bank a c).length ≤ 4194304 := by unfold FlS.bank; rw [List.length_take, List.length_drop, g.l]; omega
 have hsb := scan_bound (s.bank a c) _ 16 rfl
 rw [show scanG (s.bank a c) 16 = (l, e, b) from hS] at hsb
 obtain ⟨hs1, hs2⟩ := hsb
 simp only at hs1 hs2
 refine ⟨fun r hr => ?_, by rw [List.length_map]; omega⟩
 obtain ⟨c, hc, rfl⟩ := List.mem_map.1 hr
 have := hs1 c hc
 unfold rkOf
 simp only
 omega
theorem look_few {W : Int} {n k : Nat} {s : FlS} {a c : Nat} (g : Goes W n k s) (p : Lies n k a c) {l : List Rc} {e : Nat} {b : Bool} (hS : s.scan a c = (l, e, b)) : l.length ≤ 4194304 := by
 have hgl := g.len
 have hbk2 : (s.bank a c).length ≤ 4194304 := by unfold FlS.bank; rw [List.length_take, List.length_drop, g.l]; omega
 have hsb := (scan_bound (s.bank a c) _ 16 rfl).2
 rw [show scanG (s.bank a c) 16 = (l, e, b) from hS] at hsb
 simp only at hsb
 omega
theorem spec_dead_b (s : FlS) (b : Bool) (h : s.dd = b) (v0 v1 : Nat) : Spec Tryz.prog 31 [.ref 0 v0 6 0 0] [⟨v0, .obj [.own 1 v1 1 0 s.l.length, .val (.int .i64 (s.k : Int)), .val (.int .i64 s.ar), .val (.int .i64 s.pt), .val (.bool s.dd), .val (.int .i64 s.wr)]⟩, ⟨v1, .bytes s.l⟩] (pst (.val (.bool b)) [⟨v0, .obj [.own 1 v1 1 0 s.l.length, .val (.int .i64 (s.k : Int)), .val (.int .i64 s.ar), .val (.int .i64 s.pt), .val (.bool s.dd), .val (.int .i64 s.wr)]⟩, ⟨v1, .bytes s.l⟩]) := by
 subst h
 exact spec_dead s v0 v1
end Go.Proofs.YtpbpiehcchannaaGreatDoor
