/- Walks of lintellaw08: look; records in rows, compared. Conditions: none. -/
import Derived.Test.YtddocchgikaahaaDoorBk19
namespace Go.Proofs.YtddocchgikaahaaDoor
open Go.RowKit
set_option linter.unusedVariables false
set_option linter.unusedSimpArgs false
set_option maxRecDepth 100000
set_option maxHeartbeats 1500000
theorem scan_bound (x : List UInt8) : ∀ (n a : Nat), x.length - a = n → (∀ r ∈ (scanG x a).1, r.key.length ≤ x.length ∧ r.val.length ≤ x.length) ∧ (scanG x a).1.length ≤ n := by
  intro n
  induction n using Nat.strongRecOn with
  | _ n ih =>
    intro a ha
    by_cases h : a < x.length ∧ x.getD a 0 ≠ 255
    · by_cases hr : recIs (x.drop a)
      · rw [scanG_some h hr]
        have hN := recN_pos (x.drop a)
        have hx := hr.2.2.2.2.2.1
        rw [List.length_drop] at hx
        obtain ⟨h1, h2⟩ := ih (x.length - (a + recN (x.drop a))) (by omega) (a + recN (x.drop a)) rfl
        refine ⟨fun r hm => ?_, by simp only [List.length_cons]; omega⟩
        rcases List.mem_cons.1 hm with rfl | hm
        · constructor
          · show (recKey (x.drop a)).length ≤ x.length
            unfold recKey; simp only [List.length_drop, List.length_take]; omega
          · show (recVal (x.drop a)).length ≤ x.length
            unfold recVal; simp only [List.length_drop, List.length_take]; omega
        · exact h1 r hm
      · rw [scanG_bad h hr]
        exact ⟨by simp, Nat.zero_le _⟩
    · rw [scanG_end h]
      exact ⟨by simp, Nat.zero_le _⟩
theorem look_vc {W : Int} {n k : Nat} (s : FlS) (a c : Nat) (g : Goes W n k s) (p : Lies n k a c) (hd : s.dd = false) (l : List Rc) (e : Nat) (b : Bool) (hS : s.scan a c = (l, e, b)) (vb v0 v1 : Nat) : Spec Tryd.prog 18 [.ref 0 vb 3 0 0] [⟨vb, .obj [.ref 1 v0 6 0 0, .val (.int .i64 (a : Int)), .val (.int .i64 (c : Int))]⟩, ⟨v0, .obj [.own 2 v1 1 0 s.l.length, .val (.int .i64 (s.k : Int)), .val (.int .i64 s.ar), .val (.int .i64 s.pt), .val (.bool s.dd), .val (.int .i64 s.wr)]⟩, ⟨v1, .bytes s.l⟩]
   (pms (.tup [.own 12 (l.length + 2) 3 0 l.length, .val (.bool b), .val (.bool true)]) [⟨vb, .obj [.ref 1 v0 6 0 0, .val (.int .i64 (a : Int)), .val (.int .i64 (c : Int))]⟩, ⟨v0, .obj [.own 2 v1 1 0 s.l.length, .val (.int .i64 (s.k : Int)), .val (.int .i64 s.ar), .val (.int .i64 s.pt), .val (.bool s.dd), .val (.int .i64 s.wr)]⟩, ⟨v1, .bytes s.l⟩]
     [(12, ⟨l.length + 2, .row 3 (rrA 13 2) ⟨0, 0, 0, false⟩ (rrOf 0 l)⟩), (13, ⟨2, .pool (poolOf l)⟩)]) := by
  have hb := g.bok p
  have hbl := hb.len
  have hbk : (s.bank a c).length ≤ 140737488355328 := by unfold FlS.bank; rw [List.length_take, List.length_drop]; omega
  have hgl := g.len
  have hbk2 : (s.bank a c).length ≤ 4194304 := by unfold FlS.bank; rw [List.length_take, List.length_drop, g.l]; omega
  have hsb := scan_bound (s.bank a c) _ 16 rfl
  rw [show scanG (s.bank a c) 16 = (l, e, b) from hS] at hsb
  obtain ⟨hs1, hs2⟩ := hsb
  simp only at hs1 hs2
  refine spec_entry tbOk Tryd.func18 rfl Tryd.ntmps18 Tryd.results18 ?_
  (repeat (first | refine gos (k := ?_) | refine fun (_ : _ = false) => ?_ | refine ⟨fun (_ : true = true) => ?_, fun h => absurd h (by decide)⟩ | refine gtr (k := ?_)))
  refine cmks (Scan_live s a c g p hd l.length (by rw [hS]) vb v0 v1) Tryd.call30 (he := ⟨fun _ => ⟨rfl, rfl, trivial, trivial⟩, trivial, trivial⟩) 3 [0, 1, 2, 0, 0, 0, 0, 0, 0, 0, 0, 0, 0, 15, 16] [0, 0, 0, 0, 0, 0, 0, 0, 0, 0, 0, 0, 0, 1, 1] [13, 14] ?_
  rw [hS]
  (repeat (first | refine gos (k := ?_) | refine fun (_ : _ = false) => ?_ | refine ⟨fun (_ : true = true) => ?_, fun h => absurd h (by decide)⟩ | refine gtr (k := ?_)))
  refine cmks (records_vc l (fun c hc => ⟨by have := (hs1 c hc).1; omega, by have := (hs1 c hc).2; omega⟩) (by omega) (l.length + 3) 3 l.length rfl) Tryd.call40 (hrows := ⟨⟨fun _ => ⟨Nat.lt_succ_self 1, Nat.lt_succ_self 1, trivial, trivial⟩, rfl⟩, ⟨trivial, rfl⟩, trivial⟩) (hr2 := ⟨fun _ => ⟨rfl, rfl, trivial, trivial⟩, trivial, trivial⟩) (he := ⟨fun _ => ⟨rfl, rfl, trivial, trivial⟩, trivial, trivial⟩) 2 [15, 16, 0, 0, 0, 0, 0, 0, 0, 0, 0, 0, 0, 0, 0, 0, 0, 0, 0, 0, 0, 0, 0, 0, 0, 0, 0, 0, 0, 0, 0, 0, 0, 0, 0, 12, 0, 0, 0, 0, 0, 0, 0, 0, 0, 0, 0, 0, 0, 0, 0, 0, 0, 0, 0, 0, 0, 0, 0, 0, 0, 0, 0, 0, 0, 0, 0, 0, 0, 0, 13] [0, 0, 0, 0, 0, 0, 0, 0, 0, 0, 0, 0, 0, 0, 0, 0, 0, 0, 0, 0, 0, 0, 0, 0, 0, 0, 0, 0, 0, 0, 0, 0, 0, 0, 0, 1, 0, 0, 0, 0, 0, 0, 0, 0, 0, 0, 0, 0, 0, 0, 0, 0, 0, 0, 0, 0, 0, 0, 0, 0, 0, 0, 0, 0, 0, 0, 0, 0, 0, 0, 1] [35, 70] ?_
  (repeat (first | refine gos (k := ?_) | refine fun (_ : _ = false) => ?_ | refine ⟨fun (_ : true = true) => ?_, fun h => absurd h (by decide)⟩ | refine gtr (k := ?_)))
  exact ⟨_, rfl, rfl, rfl, rfl, trivial⟩
/-- records in a row, their bytes in a pool -/
structure RRel (rs : List Rr) (ps : List (List UInt8)) (ls : List RK) : Prop where
  len : rs.length = ls.length
  el : ∀ (i : Nat) (x : Rr) (y : RK), rs[i]? = some x → ls[i]? = some y → ps[x.i]? = some y.key ∧ x.kn = y.key.length ∧ ps[x.i + 1]? = some y.val ∧ x.vn = y.val.length ∧ x.lv = y.lv
theorem RRel.of (l : List Rc) : RRel (rrOf 0 l) (poolOf l) (l.map rkOf) := by
  refine ⟨by rw [rrOf_len, List.length_map], fun i x y hx hy => ?_⟩
  rw [List.getElem?_map] at hy
  obtain ⟨c, hc, rfl⟩ := Option.map_eq_some_iff.1 hy
  obtain ⟨p0, p1⟩ := poolOf_get l i c hc
  rw [rrOf_get l 0 i c hc, Nat.zero_add] at hx
  obtain rfl := Option.some.inj hx
  exact ⟨p0, rfl, p1, rfl, rfl⟩
theorem RRel.set {rs : List Rr} {ps : List (List UInt8)} {ls : List RK} (h : RRel rs ps ls) (i : Nat) (b : Bool) (d : Rr) (e : RK) : RRel (rs.set i ⟨(rs.getD i d).i, (rs.getD i d).kn, (rs.getD i d).vn, b⟩) ps (ls.set i ⟨(ls.getD i e).key, (ls.getD i e).val, b⟩) := by
  refine ⟨by simp [h.len], fun j x y hx hy => ?_⟩
  have hl := h.len
  by_cases hj : i = j
  · subst hj
    have hi : i < rs.length := by
      have := (List.getElem?_eq_some_iff.1 hx).1
      simpa using this
    have hi2 : i < ls.length := by omega
    rw [List.getElem?_set_self hi] at hx
    rw [List.getElem?_set_self hi2] at hy
    obtain rfl := Option.some.inj hx
    obtain rfl := Option.some.inj hy
    have e1 : rs[i]? = some (rs.getD i d) := by rw [List.getD_eq_getElem?_getD, List.getElem?_eq_getElem hi]; rfl
    have e2 : ls[i]? = some (ls.getD i e) := by rw [List.getD_eq_getElem?_getD, List.getElem?_eq_getElem hi2]; rfl
    obtain ⟨q1, q2, q3, q4, _⟩ := h.el i _ _ e1 e2
    exact ⟨q1, q2, q3, q4, rfl⟩
  · rw [List.getElem?_set_ne hj] at hx hy
    exact h.el j x y hx hy
theorem as_recs {rows : List Ent} {r v q w n : Nat} {rs : List Rr} {ps : List (List UInt8)} {ls : List RK} (h : RRel rs ps ls) (he : getL rows r = some ⟨v, .row 3 (rrA q w) ⟨0, 0, 0, false⟩ rs⟩) (hp : getL rows q = some ⟨w, .pool ps⟩) (hn : n = rs.length) : As rows (.own r v 3 0 n) (.sl 0 3 (recA 0) rk0 ls) := by
  refine as_slG he hn (by rw [hn, h.len]) fun i x y hx hy => ?_
  obtain ⟨q1, q2, q3, q4, q5⟩ := h.el i x y hx hy
  have a1 := as_pl (off := 0) (n := y.key.length) hp q1 (by omega)
  have a2 := as_pl (off := 0) (n := y.val.length) hp q3 (by omega)
  rw [whole] at a1 a2
  unfold rrA recA
  rw [q2, q4, q5]
  exact asL_cons a1 (asL_cons a2 (asL_cons as_val asL_nil))
theorem sameR_own {rs rs' : List Rr} {ps ps' : List (List UInt8)} {la lb : List RK} (h : RRel rs ps la) (h' : RRel rs' ps' lb) (hb : ∀ r ∈ la, r.key.length ≤ 140737488355328 ∧ r.val.length ≤ 140737488355328) (hl : la.length ≤ 140737488355328) (na nb va wa vb wb : Nat) (hna : na = rs.length) (hnb : nb = rs'.length) :
    Spec Tryd.prog 20 [.own 0 va 3 0 na, .own 2 vb 3 0 nb] [⟨va, .row 3 (rrA 1 wa) ⟨0, 0, 0, false⟩ rs⟩, ⟨wa, .pool ps⟩, ⟨vb, .row 3 (rrA 3 wb) ⟨0, 0, 0, false⟩ rs'⟩, ⟨wb, .pool ps'⟩]
      (pms (.val (.bool (decide (la = lb)))) [⟨va, .row 3 (rrA 1 wa) ⟨0, 0, 0, false⟩ rs⟩, ⟨wa, .pool ps⟩, ⟨vb, .row 3 (rrA 3 wb) ⟨0, 0, 0, false⟩ rs'⟩, ⟨wb, .pool ps'⟩] []) :=
  spec_ro (sameR_vc 0 0 la lb hb hl) trivial trivial (rows := [⟨va, .row 3 (rrA 1 wa) ⟨0, 0, 0, false⟩ rs⟩, ⟨wa, .pool ps⟩, ⟨vb, .row 3 (rrA 3 wb) ⟨0, 0, 0, false⟩ rs'⟩, ⟨wb, .pool ps'⟩]) (args := [.own 0 va 3 0 na, .own 2 vb 3 0 nb])
    (asL_cons (as_recs h rfl rfl hna) (asL_cons (as_recs h' rfl rfl hnb) asL_nil))
theorem look_bound {W : Int} {n k : Nat} {s : FlS} {a c : Nat} (g : Goes W n k s) (p : Lies n k a c) {l : List Rc} {e : Nat} {b : Bool} (hS : s.scan a c = (l, e, b)) : (∀ r ∈ l.map rkOf, r.key.length ≤ 140737488355328 ∧ r.val.length ≤ 140737488355328) ∧ (l.map rkOf).length ≤ 140737488355328 := by
  have hb := g.bok p
  have hbl := hb.len
  have hgl := g.len
  have hbk2 : (s.bank a c).length ≤ 4194304 := by unfold FlS.bank; rw [List.length_take, List.length_drop, g.l]; omega
  have hsb := scan_bound (s.bank a c) _ 16 rfl
  rw [show scanG (s.bank a c) 16 = (l, e, b) from hS] at hsb
  obtain ⟨hs1, hs2⟩ := hsb
  simp only at hs1 hs2
  refine ⟨fun r hr => ?_, by rw [List.length_map]; omega⟩
  obtain ⟨c, hc, rfl⟩ := List.mem_map.1 hr
  have := hs1 c hc
  unfold rkOf
  simp only
  omega
theorem sameR_is {rs rs' : List Rr} {ps ps' : List (List UInt8)} {la lb : List RK} (h : RRel rs ps la) (h' : RRel rs' ps' lb) (hb : (∀ r ∈ la, r.key.length ≤ 140737488355328 ∧ r.val.length ≤ 140737488355328) ∧ la.length ≤ 140737488355328) {q : Bool} (he : decide (la = lb) = q) (na nb va wa vb wb : Nat) (hna : na = rs.length) (hnb : nb = rs'.length) :
    Spec Tryd.prog 20 [.own 0 va 3 0 na, .own 2 vb 3 0 nb] [⟨va, .row 3 (rrA 1 wa) ⟨0, 0, 0, false⟩ rs⟩, ⟨wa, .pool ps⟩, ⟨vb, .row 3 (rrA 3 wb) ⟨0, 0, 0, false⟩ rs'⟩, ⟨wb, .pool ps'⟩]
      (pms (.val (.bool q)) [⟨va, .row 3 (rrA 1 wa) ⟨0, 0, 0, false⟩ rs⟩, ⟨wa, .pool ps⟩, ⟨vb, .row 3 (rrA 3 wb) ⟨0, 0, 0, false⟩ rs'⟩, ⟨wb, .pool ps'⟩] []) := by
  subst he
  exact sameR_own h h' hb.1 hb.2 na nb va wa vb wb hna hnb
theorem look_few {W : Int} {n k : Nat} {s : FlS} {a c : Nat} (g : Goes W n k s) (p : Lies n k a c) {l : List Rc} {e : Nat} {b : Bool} (hS : s.scan a c = (l, e, b)) : l.length ≤ 4194304 := by
  have hgl := g.len
  have hbk2 : (s.bank a c).length ≤ 4194304 := by unfold FlS.bank; rw [List.length_take, List.length_drop, g.l]; omega
  have hsb := (scan_bound (s.bank a c) _ 16 rfl).2
  rw [show scanG (s.bank a c) 16 = (l, e, b) from hS] at hsb
  simp only at hsb
  omega
theorem same_off (a b : List UInt8) (o1 n o2 m : Nat) (hn : o1 + n ≤ a.length) (hm' : o2 + m ≤ b.length) (hb : a.length ≤ 140737488355328) {q : Bool} (he : decide ((a.drop o1).take n = (b.drop o2).take m) = q) (v0 v1 : Nat) : Spec Tryd.prog 22 [.own 0 v0 1 o1 n, .own 1 v1 1 o2 m] [⟨v0, .bytes a⟩, ⟨v1, .bytes b⟩] (pms (.val (.bool q)) [⟨v0, .bytes a⟩, ⟨v1, .bytes b⟩] []) := by
  subst he
  exact spec_ro (same_vc 0 0 ((a.drop o1).take n) ((b.drop o2).take m) (by rw [List.length_take, List.length_drop]; omega)) trivial trivial (rows := [⟨v0, .bytes a⟩, ⟨v1, .bytes b⟩]) (args := [.own 0 v0 1 o1 n, .own 1 v1 1 o2 m]) (asL_cons (as_own (l := a) rfl (by omega)) (asL_cons (as_own (l := b) rfl (by omega)) asL_nil))
end Go.Proofs.YtddocchgikaahaaDoor
