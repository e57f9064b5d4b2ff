/- Abstract values: rows of bytes that go into a pool. Conditions: the premises of each law. -/
import Derived.Test.YtmjpbmcbcppkfaaGreatDoorJAe
namespace Go.Proofs.YtmjpbmcbcppkfaaGreatDoor
set_option linter.unusedVariables false
set_option linter.unusedSimpArgs false
open Go.RowKit
mutual
def mvA (q u r v k : Nat) : AV → AV
 | .own q' u' sz off n => bif Nat.beq q' q && (Nat.beq u' u && Nat.beq sz 1) then .pl r v k off n else .own q' u' sz off n
 | .agg l => .agg (mvAs q u r v k l)
 | .tup l => .tup (mvAs q u r v k l)
 | .clo f caps => .clo f (mvAs q u r v k caps)
 | .gd φ x => .gd φ (mvA q u r v k x)
 | x => x
def mvAs (q u r v k : Nat) : List AV → List AV
 | [] => []
 | x :: xs => mvA q u r v k x :: mvAs q u r v k xs
end
section
variable {P : Program}
theorem Out.pool0 {E : Env} {w : World} {H : List Ent} (hr : HR E w H) {r v : Nat} (h0 : H[r]? = some ⟨v, .dead⟩) : ∃ E', Out E E' w w H [(r, ⟨v + 1, .pool []⟩)] := by
 have hver : E.ver r = v := hr.ver r _ h0
 have hlt0 : r < H.length := (List.getElem?_eq_some_iff.1 h0).1
 obtain ⟨E', hE'⟩ : ∃ E' : Env, E' = { E with ver := fun k => if k = r then v + 1 else E.ver k, abs := fun k => if k = r then False else E.abs k, pl := fun k => if k = r then (fun _ => none) else E.pl k } := ⟨_, rfl⟩
 have ev : E'.ver r = v + 1 := by subst hE'; simp
 have evn : ∀ k, k ≠ r → E'.ver k = E.ver k := by intro k hk; subst hE'; simp [hk]
 have ea : ¬ E'.abs r := by subst hE'; simp
 have ean : ∀ k, k ≠ r → (E'.abs k ↔ E.abs k) := by intro k hk; subst hE'; simp [hk]
 have ep : ∀ i, E'.pl r i = none := by subst hE'; simp
 have epn : ∀ k, k ≠ r → E'.pl k = E.pl k := by intro k hk; subst hE'; simp [hk]
 have er : ∀ k, E'.ρ k = E.ρ k := by intro k; subst hE'; rfl
 have ez : ∀ z b, E'.zone z b ↔ E.zone z b := by intro z b; subst hE'; exact Iff.rfl
 have X : Ext E E' w w := by
  refine ⟨fun k => ?_, fun k _ => er k, fun k hk => ?_, fun z b h => (ez z b).2 h, fun _ _ _ => rfl, fun k cur T fz h => ⟨cur, T, fz, h, Nat.le_refl _⟩, fun k hk i b hb => ?_⟩
  ·by_cases q : k = r
   ·subst q; omega
   ·rw [evn k q]; exact Nat.le_refl _
  ·by_cases q : k = r
   ·subst q; omega
   ·exact ean k q
  ·by_cases q : k = r
   ·subst q; omega
   ·rw [epn k q]; exact hb
 have hget : ∀ (k : Nat) (e : Ent), (updH H [(r, ⟨v + 1, .pool []⟩)])[k]? = some e → k = r ∧ e = ⟨v + 1, .pool []⟩ ∨ k ≠ r ∧ H[k]? = some e := by
  intro k e h
  simp only [updH, setL_eq] at h
  by_cases hrr : k = r
  ·subst hrr; rw [List.getElem?_set_self hlt0] at h; exact .inl ⟨rfl, (Option.some.inj h).symm⟩
  ·rw [List.getElem?_set_ne (Ne.symm hrr)] at h; exact .inr ⟨hrr, h⟩
 have hblk : ∀ (k : Nat) (e : Ent) (b : Nat), (updH H [(r, ⟨v + 1, .pool []⟩)])[k]? = some e → Blk E' k e b → k ≠ r ∧ H[k]? = some e ∧ Blk E k e b := by
  intro k e b h hb
  rcases hget k e h with ⟨rfl, rfl⟩ | ⟨q1, q2⟩
  ·rcases hb with ⟨hb, _⟩ | ⟨_, i, hb⟩
   ·cases hb.1
   ·rw [ep] at hb; cases hb
  ·refine ⟨q1, q2, ?_⟩
   unfold Blk Liv at hb ⊢
   rwa [er, ean k q1, epn k q1] at hb
 refine ⟨E', X, ⟨?_, ?_, ?_, ?_, fun z b h => hr.zlt z b ((ez z b).1 h), ?_, ?_, hr.gl.ext X, ?_⟩, rfl, rfl, rfl, Nat.le_refl _, fun z b h => .inl ((ez z b).1 h), fun _ cur T fz h => ⟨cur, T, fz, h, Nat.le_refl _⟩, fun _ _ _ => rfl, ?_⟩
 ·intro k e h
  rcases hget k e h with ⟨rfl, rfl⟩ | ⟨q1, q2⟩
  ·exact ev
  ·rw [evn k q1]; exact hr.ver k e q2
 ·intro k e h hl
  rcases hget k e h with ⟨rfl, rfl⟩ | ⟨q1, q2⟩
  ·cases hl.1
  ·rw [er]; exact (hr.ent k e q2 ⟨hl.1, fun q => hl.2 ((ean k q1).2 q)⟩).ext X rfl
 ·intro k e h ha
  rcases hget k e h with ⟨rfl, rfl⟩ | ⟨q1, q2⟩
  ·exact absurd ha ea
  ·exact hr.abs k e q2 ((ean k q1).1 ha)
 ·intro k k' e e' b h h' hl hl'
  obtain ⟨_, q2, q3⟩ := hblk k e b h hl
  obtain ⟨_, q5, q6⟩ := hblk k' e' b h' hl'
  exact hr.inj k k' e e' b q2 q5 q3 q6
 ·intro k e b h hl z hz
  obtain ⟨_, q2, q3⟩ := hblk k e b h hl
  exact hr.zrow k e b q2 q3 z ((ez z _).1 hz)
 ·intro k hk
  simp only [updH, setL_eq, List.length_set] at hk
  have hne : k ≠ r := by omega
  rw [evn k hne, ean k hne]
  exact hr.top k hk
 ·intro k u ls h
  rcases hget k _ h with ⟨rfl, h1⟩ | ⟨q1, q2⟩
  ·cases h1
   exact ⟨fun i l h => by simp at h, fun i l b h => by simp at h, fun i j b h => (by rw [ep] at h; cases h), fun i b h => (by rw [ep] at h; cases h)⟩
  ·rw [epn k q1]; exact hr.pool k u ls q2
 ·intro k e b h hl
  obtain ⟨_, q2, q3⟩ := hblk k e b h hl
  exact .inr ⟨k, e, q2, q3, .inl rfl⟩
theorem Out.move {E : Env} {w : World} {H : List Ent} (hr : HR E w H) {q u r v : Nat} {l : List UInt8} {ls : List (List UInt8)} (hq : H[q]? = some ⟨u, .bytes l⟩) (h0 : H[r]? = some ⟨v, .pool ls⟩) :
    ∃ E', Out E E' w w H [(q, ⟨u, .dead⟩), (r, ⟨v, .pool (ls ++ [l])⟩)] ∧ (∀ x c, rep E w x c → rep E' w (mvA q u r v ls.length x) c) := by
 have hqr : q ≠ r := by rintro rfl; rw [hq] at h0; cases h0
 have hP := hr.pool r v ls h0
 have hvq : E.ver q = u := hr.ver q _ hq
 have hvr : E.ver r = v := hr.ver r _ h0
 have hltq : q < H.length := (List.getElem?_eq_some_iff.1 hq).1
 have hlt0 : r < H.length := (List.getElem?_eq_some_iff.1 h0).1
 obtain ⟨nb, hnb⟩ : ∃ nb : Option Nat, (E.abs q ∧ nb = none) ∨ (¬ E.abs q ∧ nb = some (E.ρ q)) := by
  by_cases h : E.abs q
  ·exact ⟨_, .inl ⟨h, rfl⟩⟩
  ·exact ⟨_, .inr ⟨h, rfl⟩⟩
 have hlivq : ¬ E.abs q → Liv E q ⟨u, .bytes l⟩ := fun h => ⟨rfl, h⟩
 obtain ⟨E', hE'⟩ : ∃ E' : Env, E' = { E with pl := fun k => if k = r then (fun i => if i = ls.length then nb else E.pl r i) else E.pl k } := ⟨_, rfl⟩
 have ep : ∀ i, E'.pl r i = if i = ls.length then nb else E.pl r i := by subst hE'; simp
 have epn : ∀ k, k ≠ r → E'.pl k = E.pl k := by intro k hk; subst hE'; simp [hk]
 have er : ∀ k, E'.ρ k = E.ρ k := by intro k; subst hE'; rfl
 have ev : ∀ k, E'.ver k = E.ver k := by intro k; subst hE'; rfl
 have ea : ∀ k, E'.abs k ↔ E.abs k := by intro k; subst hE'; exact Iff.rfl
 have ez : ∀ z b, E'.zone z b ↔ E.zone z b := by intro z b; subst hE'; exact Iff.rfl
 have X : Ext E E' w w := by
  refine ⟨fun k => by rw [ev]; exact Nat.le_refl _, fun k _ => er k, fun k _ => ea k, fun z b h => (ez z b).2 h, fun _ _ _ => rfl, fun k cur T fz h => ⟨cur, T, fz, h, Nat.le_refl _⟩, fun k _ i b hb => ?_⟩
  by_cases h : k = r
  ·subst h
   have := hP.top i b hb
   rw [ep, if_neg (by omega)]; exact hb
  ·rw [epn k h]; exact hb
 obtain ⟨H', hH'⟩ : ∃ H', H' = updH H [(q, ⟨u, .dead⟩), (r, ⟨v, .pool (ls ++ [l])⟩)] := ⟨_, rfl⟩
 have hget : ∀ (k : Nat) (e : Ent), H'[k]? = some e → (k = r ∧ e = ⟨v, .pool (ls ++ [l])⟩) ∨ (k = q ∧ e = ⟨u, .dead⟩) ∨ (k ≠ r ∧ k ≠ q ∧ H[k]? = some e) := by
  intro k e h
  rw [hH'] at h
  simp only [updH, setL_eq] at h
  by_cases h1 : k = r
  ·subst h1
   rw [List.getElem?_set_self (by simpa using hlt0)] at h
   exact .inl ⟨rfl, (Option.some.inj h).symm⟩
  ·rw [List.getElem?_set_ne (Ne.symm h1)] at h
   by_cases h2 : k = q
   ·subst h2
    rw [List.getElem?_set_self hltq] at h
    exact .inr (.inl ⟨rfl, (Option.some.inj h).symm⟩)
   ·rw [List.getElem?_set_ne (Ne.symm h2)] at h
    exact .inr (.inr ⟨h1, h2, h⟩)
 have hblk : ∀ (k : Nat) (e : Ent) (b : Nat), H'[k]? = some e → Blk E' k e b → ∃ (k0 : Nat) (e0 : Ent), H[k0]? = some e0 ∧ Blk E k0 e0 b ∧ (k0 = k ∧ k ≠ q ∨ k0 = q ∧ k = r) := by
  intro k e b h hb
  rcases hget k e h with ⟨rfl, rfl⟩ | ⟨rfl, rfl⟩ | ⟨h1, h2, h3⟩
  ·rcases hb with ⟨hb, _⟩ | ⟨_, i, hb⟩
   ·cases hb.1
   ·rw [ep] at hb
    split at hb
    ·rcases hnb with ⟨_, rfl⟩ | ⟨hna, rfl⟩
     ·cases hb
     ·cases hb
      exact ⟨q, _, hq, Blk.of (hlivq hna), .inr ⟨rfl, rfl⟩⟩
    ·exact ⟨k, _, h0, .inr ⟨rfl, i, hb⟩, .inl ⟨rfl, Ne.symm hqr⟩⟩
  ·exact absurd hb Blk.dead
  ·refine ⟨k, e, h3, ?_, .inl ⟨rfl, h2⟩⟩
   unfold Blk Liv at hb ⊢
   rwa [er, ea, epn k h1] at hb
 have hbq : ∀ b, E'.pl r ls.length = some b → b = E.ρ q ∧ ¬ E.abs q := by
  intro b hb
  rw [ep, if_pos rfl] at hb
  rcases hnb with ⟨_, rfl⟩ | ⟨hna, rfl⟩
  ·cases hb
  ·cases hb; exact ⟨rfl, hna⟩
 have O : Out E E' w w H [(q, ⟨u, .dead⟩), (r, ⟨v, .pool (ls ++ [l])⟩)] := by
  refine ⟨X, ?_, rfl, rfl, rfl, Nat.le_refl _, fun z b h => .inl ((ez z b).1 h), fun _ cur T fz h => ⟨cur, T, fz, h, Nat.le_refl _⟩, fun _ _ _ => rfl, ?_⟩
  ·rw [← hH']
   refine ⟨?_, ?_, ?_, ?_, fun z b h => hr.zlt z b ((ez z b).1 h), ?_, ?_, hr.gl.ext X, ?_⟩
   ·intro k e h
    rw [ev]
    rcases hget k e h with ⟨rfl, rfl⟩ | ⟨rfl, rfl⟩ | ⟨_, _, h3⟩
    ·exact hvr
    ·exact hvq
    ·exact hr.ver k e h3
   ·intro k e h hl
    rcases hget k e h with ⟨rfl, rfl⟩ | ⟨rfl, rfl⟩ | ⟨_, _, h3⟩
    ·cases hl.1
    ·cases hl.1
    ·rw [er]; exact (hr.ent k e h3 ⟨hl.1, fun a => hl.2 ((ea k).2 a)⟩).ext X rfl
   ·intro k e h ha
    rw [ea] at ha
    rcases hget k e h with ⟨rfl, rfl⟩ | ⟨rfl, rfl⟩ | ⟨_, _, h3⟩
    ·have := hr.abs k _ h0 ha; cases this
    ·rfl
    ·exact hr.abs k e h3 ha
   ·intro k k' e e' b h h' hl hl'
    obtain ⟨k0, e0, h1, h2, h3⟩ := hblk k e b h hl
    obtain ⟨k1, e1, g1, g2, g3⟩ := hblk k' e' b h' hl'
    have := hr.inj k0 k1 e0 e1 b h1 g1 h2 g2
    rcases h3 with ⟨rfl, h3⟩ | ⟨rfl, rfl⟩ <;> rcases g3 with ⟨rfl, g3⟩ | ⟨rfl, rfl⟩
    ·exact this
    ·exact absurd this h3
    ·exact absurd this.symm g3
    ·rfl
   ·intro k e b h hl z hz
    obtain ⟨k0, e0, h1, h2, _⟩ := hblk k e b h hl
    exact hr.zrow k0 e0 b h1 h2 z ((ez z _).1 hz)
   ·intro k hk
    rw [hH', updH_length] at hk
    rw [ev, ea]
    exact hr.top k hk
   ·intro k u' ms h
    rcases hget k _ h with ⟨rfl, h1⟩ | ⟨_, h1⟩ | ⟨h1, h2, h3⟩
    ·cases h1
     refine ⟨fun i m hm hne => ?_, fun i m b hm hb => ?_, fun i j b hi hj => ?_, fun i b hi => ?_⟩
     ·rw [List.getElem?_append] at hm
      split at hm
      ·rename_i hi
       obtain ⟨b, hb⟩ := hP.has i m hm hne
       exact ⟨b, by rw [ep, if_neg (by omega)]; exact hb⟩
      ·rename_i hi
       have hi2 : i - ls.length = 0 := by have := (List.getElem?_eq_some_iff.1 hm).1; simp at this; omega
       rw [hi2] at hm
       cases hm
       have hie : i = ls.length := by omega
       rw [ep, if_pos hie]
       rcases hnb with ⟨ha, rfl⟩ | ⟨hna, rfl⟩
       ·have := hr.abs q _ hq ha
        exact absurd (List.eq_nil_of_length_eq_zero this) hne
       ·exact ⟨_, rfl⟩
     ·rw [List.getElem?_append] at hm
      split at hm
      ·rename_i hi
       rw [ep, if_neg (by omega)] at hb
       exact hP.blk i m b hm hb
      ·rename_i hi
       have hi2 : i - ls.length = 0 := by have := (List.getElem?_eq_some_iff.1 hm).1; simp at this; omega
       rw [hi2] at hm
       cases hm
       have hie : i = ls.length := by omega
       subst hie
       obtain ⟨rfl, hna⟩ := hbq b hb
       obtain ⟨cur, T, lo, hi', g1, g2, g3, g4⟩ := (hr.ent q _ hq (hlivq hna)).blk rfl
       refine ⟨cur, T, lo, hi', g1, g2, by simpa [Bd.count, Bd.sz] using g3, fun j x hx => ?_⟩
       obtain ⟨cs, _, k2, k3⟩ := g4 j [.val (bv x)] (by simp [Bd.at, hx])
       simp only [reps, rep] at k2
       obtain ⟨y, vs, rfl, rfl, rfl⟩ := k2
       have := k3 0 _ rfl
       simpa [Bd.sz] using this
     ·have key : ∀ i, E'.pl k i = some b → (i = ls.length ∧ Blk E q ⟨u, .bytes l⟩ b) ∨ (i ≠ ls.length ∧ E.pl k i = some b) := by
        intro i hi
        by_cases hie : i = ls.length
        ·subst hie
         obtain ⟨rfl, hna⟩ := hbq b hi
         exact .inl ⟨rfl, Blk.of (hlivq hna)⟩
        ·rw [ep, if_neg hie] at hi
         exact .inr ⟨hie, hi⟩
      rcases key i hi with ⟨h1, h2⟩ | ⟨h1, h2⟩ <;> rcases key j hj with ⟨g1, g2⟩ | ⟨g1, g2⟩
      ·omega
      ·exact absurd (hr.inj q k _ _ b hq h0 h2 (.inr ⟨rfl, j, g2⟩)) hqr
      ·exact absurd (hr.inj q k _ _ b hq h0 g2 (.inr ⟨rfl, i, h2⟩)) hqr
      ·exact hP.inj i j b h2 g2
     ·rw [List.length_append, List.length_singleton]
      rw [ep] at hi
      split at hi
      ·omega
      ·have := hP.top i b hi; omega
    ·cases h1
    ·rw [epn k h1]; exact hr.pool k u' ms h3
  ·intro k e b h hl
   rw [← hH'] at h
   obtain ⟨k0, e0, h1, h2, h3⟩ := hblk k e b h hl
   refine .inr ⟨k0, e0, h1, h2, ?_⟩
   rcases h3 with ⟨rfl, _⟩ | ⟨rfl, _⟩
   ·exact .inl rfl
   ·exact .inr (by simp)
 refine ⟨E', O, ?_⟩
 have one : ∀ (off n : Nat) (c : Value), rep E w (.own q u 1 off n) c → rep E' w (.pl r v ls.length off n) c := by
  intro off n c h
  simp only [Go.Proofs.YtmjpbmcbcppkfaaGreatDoor.rep] at h ⊢
  obtain ⟨a, cc, rfl, h1, h2, h3, h4⟩ := h.2 hvq.symm
  refine ⟨by rw [ev, hvr]; exact Nat.le_refl _, fun _ => ⟨a, cc, rfl, h1, h2, h3, ?_⟩⟩
  rcases h4 with h4 | ⟨h4, h5, cur, T, fz, h6, h7⟩
  ·left; omega
  ·refine .inr ⟨E.ρ q, ?_, by rw [h5, Nat.mul_one], cur, T, fz, h6, by rw [Nat.mul_one] at h7; omega⟩
   rw [ep, if_pos rfl]
   rcases hnb with ⟨ha, _⟩ | ⟨_, rfl⟩
   ·exact absurd ha h4
   ·rfl
 exact go1 one X
where
 go1 {E E' : Env} {w : World} {q u r v k : Nat} (one : ∀ (off n : Nat) (c : Value), rep E w (.own q u 1 off n) c → rep E' w (.pl r v k off n) c) (X : Ext E E' w w) : ∀ (x : AV) (c : Value), rep E w x c → rep E' w (mvA q u r v k x) c
  | .own q' u' sz off n, c, h => by
   rw [mvA]
   cases hb : (Nat.beq q' q && (Nat.beq u' u && Nat.beq sz 1))
   ·exact rep_ext X _ _ h
   ·simp only [Bool.and_eq_true, Nat.beq_eq] at hb
    obtain ⟨rfl, rfl, rfl⟩ := hb
    exact one off n c h
  | .agg l, c, h => by
   rw [mvA, rep]
   rw [rep] at h
   obtain ⟨cs, rfl, h⟩ := h
   exact ⟨cs, rfl, go2 one X l cs h⟩
  | .tup l, c, h => by
   rw [mvA, rep]
   rw [rep] at h
   obtain ⟨cs, rfl, h⟩ := h
   exact ⟨cs, rfl, go2 one X l cs h⟩
  | .clo f l, c, h => by
   rw [mvA, rep]
   rw [rep] at h
   obtain ⟨cs, rfl, h⟩ := h
   exact ⟨cs, rfl, go2 one X l cs h⟩
  | .gd φ x, c, h => by
   rw [mvA]
   simp only [Go.Proofs.YtmjpbmcbcppkfaaGreatDoor.rep] at h ⊢
   exact ⟨fun p => go1 one X x c (h.1 p), h.2⟩
  | .any, c, h => rep_ext X _ _ h
  | .val _, c, h => rep_ext X _ _ h
  | .bs .., c, h => rep_ext X _ _ h
  | .sl .., c, h => rep_ext X _ _ h
  | .ref .., c, h => rep_ext X _ _ h
  | .cp .., c, h => rep_ext X _ _ h
  | .yld .., c, h => rep_ext X _ _ h
  | .mth .., c, h => rep_ext X _ _ h
  | .ifc .., c, h => rep_ext X _ _ h
  | .mp .., c, h => rep_ext X _ _ h
  | .pl .., c, h => rep_ext X _ _ h
  | .plr .., c, h => rep_ext X _ _ h
 go2 {E E' : Env} {w : World} {q u r v k : Nat} (one : ∀ (off n : Nat) (c : Value), rep E w (.own q u 1 off n) c → rep E' w (.pl r v k off n) c) (X : Ext E E' w w) : ∀ (xs : List AV) (cs : List Value), reps E w xs cs → reps E' w (mvAs q u r v k xs) cs
  | [], cs, h => by rw [mvAs]; rw [Go.Proofs.YtmjpbmcbcppkfaaGreatDoor.reps] at h ⊢; exact h
  | x :: xs, cs, h => by
   rw [mvAs, Go.Proofs.YtmjpbmcbcppkfaaGreatDoor.reps]
   rw [Go.Proofs.YtmjpbmcbcppkfaaGreatDoor.reps] at h
   obtain ⟨c, cs', rfl, h1, h2⟩ := h
   exact ⟨c, cs', rfl, go1 one X x c h1, go2 one X xs cs' h2⟩
/-! behind a call -/
theorem CallW.mono {f : FuncId} {as : Array Value} {w : World} {R R' : Value → World → Prop} (h : CallW P f as w R) (hr : ∀ v w', R v w' → R' v w') : CallW P f as w R' := by
 rcases h with ⟨h1, h2⟩ | ⟨v, w', h1, h2⟩
 ·exact .inl ⟨h1, Calls.mono h2 fun e w' ⟨v, he, hv⟩ => ⟨v, he, hr v w' hv⟩⟩
 ·exact .inr ⟨v, w', h1, hr v w' h2⟩
def nowU (hg : Nat → Option Ent) (us : List (Nat × Ent)) (r : Nat) : Option Ent := match hg r with
 | none => none
 | some e => match lastU us r with
  | none => some e
  | some e' => some e'
theorem nowU_get {hg : Nat → Option Ent} {us : List (Nat × Ent)} {r : Nat} {e : Ent} (h : nowU hg us r = some e) {H : List Ent} (hh : ∀ (r : Nat) (e : Ent), hg r = some e → H[r]? = some e) : (updH H us)[r]? = some e := by
 unfold nowU at h
 split at h
 ·cases h
 rename_i e0 he
 rw [updH_getU, hh r e0 he]
 split at h <;> rename_i hl <;> rw [hl] <;> simpa using h
theorem callK_move {x : AV} {args : List AV} {hg : Nat → Option Ent} {K : AV → List (Nat × Ent) → Prop} (q r : Nat)
    (h : callK P x args hg fun v us => ∃ u l vv ls, nowU hg us q = some ⟨u, .bytes l⟩ ∧ nowU hg us r = some ⟨vv, .pool ls⟩ ∧ K (mvA q u r vv ls.length v) (us ++ [(q, ⟨u, .dead⟩), (r, ⟨vv, .pool (ls ++ [l])⟩)])) : callK P x args hg K := by
 unfold callK at h ⊢
 obtain ⟨f, caps, rfl, post, S, hK⟩ := h
 refine ⟨f, caps, rfl, K, fun E H w cargs hr hh ha => ?_, fun _ _ h => h⟩
 refine (S E H w cargs hr hh ha).mono fun v w' ⟨y, us, E', hp, hv, O⟩ => ?_
 obtain ⟨u, l, vv, ls, h1, h2, h3⟩ := hK y us hp
 obtain ⟨E2, O2, hm⟩ := Out.move O.hr (nowU_get h1 hh) (nowU_get h2 hh)
 exact ⟨_, _, E2, h3, hm _ _ hv, O.trans O2⟩
theorem callK_pool {x : AV} {args : List AV} {hg : Nat → Option Ent} {K : AV → List (Nat × Ent) → Prop} (r : Nat)
    (h : callK P x args hg fun v us => ∃ vv, nowU hg us r = some ⟨vv, .dead⟩ ∧ K v (us ++ [(r, ⟨vv + 1, .pool []⟩)])) : callK P x args hg K := by
 unfold callK at h ⊢
 obtain ⟨f, caps, rfl, post, S, hK⟩ := h
 refine ⟨f, caps, rfl, K, fun E H w cargs hr hh ha => ?_, fun _ _ h => h⟩
 refine (S E H w cargs hr hh ha).mono fun v w' ⟨y, us, E', hp, hv, O⟩ => ?_
 obtain ⟨vv, h1, h2⟩ := hK y us hp
 obtain ⟨E2, O2⟩ := Out.pool0 O.hr (nowU_get h1 hh)
 exact ⟨_, _, E2, h2, rep_ext O2.ext _ _ hv, O.trans O2⟩
/-! how slices of pools read -/
theorem rep_of_pl {E E0 : Env} {w : World} {H : List Ent} (hr : HR E w H) {r ver i off n : Nat} {ls : List (List UInt8)} {l : List UInt8} (he : H[r]? = some ⟨ver, .pool ls⟩) (hl : ls[i]? = some l) (hle : off + n ≤ l.length) {v : Value} (h : rep E w (.pl r ver i off n) v)
    (hz : ∀ b, E.pl r i = some b → E0.zone 0 b) : rep E0 w (.bs 0 ((l.drop off).take n)) v := by
 obtain ⟨a, c, rfl, h1, h2, h3, h4⟩ := hr.plAt he hl hle rfl h
 rw [rep]
 refine ⟨a, n, c, rfl, by rw [List.length_take, List.length_drop]; omega, h1, h2, h3, fun j x hx => ?_⟩
 obtain ⟨b, h5, h6, h7⟩ := h4 j x hx
 exact ⟨b, off, h6, hz b h5, h7⟩
theorem as_pl {rows : List Ent} {r ver i off n : Nat} {ls : List (List UInt8)} {l : List UInt8} (he : getL rows r = some ⟨ver, .pool ls⟩) (hl : ls[i]? = some l) (hle : off + n ≤ l.length) : As rows (.pl r ver i off n) (.bs 0 ((l.drop off).take n)) := fun E E0 w v hr hz h => by
 rw [getL_eq] at he
 exact rep_of_pl hr he hl hle h fun b hb => (hz 0 b).2 ⟨rfl, hr.blt he (.inr ⟨rfl, i, hb⟩)⟩
theorem aX_pl {H0 R : List Ent} {q ver i off n : Nat} {ls : List (List UInt8)} {l : List UInt8} (he : getL R q = some ⟨ver, .pool ls⟩) (hl : ls[i]? = some l) (hle : off + n ≤ l.length) : AX H0 R (.pl (q + H0.length) ver i off n) (.bs 0 ((l.drop off).take n)) := fun E E0 w v hr hz _ h => by
 rw [getL_eq] at he
 have heH : (H0 ++ R)[q + H0.length]? = some ⟨ver, .pool ls⟩ := by
  rw [List.getElem?_append_right (by omega), show q + H0.length - H0.length = q by omega]; exact he
 refine rep_of_pl hr heH hl hle h fun b hb => (hz 0 b).2 ⟨rfl, hr.blt heH (.inr ⟨rfl, i, hb⟩), fun r e hre hl => ?_⟩
 have hrl := (List.getElem?_eq_some_iff.1 hre).1
 have := hr.inj r (q + H0.length) e _ b (by rw [List.getElem?_append_left hrl]; exact hre) heH hl (.inr ⟨rfl, i, hb⟩)
 omega
/-! weakenings that look at the addresses -/
theorem leS_cells {s : St} {b vb r v' : Nat} {cells cells' : List AV} {er : Ent} (hb : getL s.H b = some ⟨vb, .obj cells⟩) (hr : getL s.H r = some er) (hv : er.ver = v') (ht : leTn r v' cells cells') : leS s ⟨s.t, setL s.H b ⟨vb, .obj cells'⟩⟩ := by
 intro w0 keep E a w hR
 rw [getL_eq] at hb hr
 have hbl := (List.getElem?_eq_some_iff.1 hb).1
 have hver : E.ver r = v' := (hR.hr.ver r er hr).trans hv
 obtain ⟨h1, h2⟩ := leTn_get ht
 have hw : ∀ (k : Nat) (e : Ent), (setL s.H b ⟨vb, .obj cells'⟩)[k]? = some e → (k = b ∧ e = ⟨vb, .obj cells'⟩) ∨ (k ≠ b ∧ s.H[k]? = some e) := by
  intro k e h
  rw [setL_eq, List.getElem?_set] at h
  by_cases q : b = k
  ·subst q
   rw [if_pos rfl, if_pos hbl] at h
   exact .inl ⟨rfl, (Option.some.inj h).symm⟩
  ·rw [if_neg q] at h; exact .inr ⟨fun h => q h.symm, h⟩
 have hblk : ∀ (k : Nat) (e : Ent) (c : Nat), (setL s.H b ⟨vb, .obj cells'⟩)[k]? = some e → Blk E k e c → ∃ e0, s.H[k]? = some e0 ∧ Blk E k e0 c := by
  intro k e c h hc
  rcases hw k e h with ⟨rfl, rfl⟩ | ⟨_, h⟩
  ·rcases hc with ⟨⟨_, q1⟩, q2⟩ | ⟨q, _⟩
   ·exact ⟨_, hb, .inl ⟨⟨rfl, q1⟩, q2⟩⟩
   ·cases q
  ·exact ⟨e, h, hc⟩
 have key : ∀ {cs : List Value}, reps E w cells cs → reps E w cells' cs := fun {cs} hc => by
  obtain ⟨g1, g2⟩ := reps_get hc
  refine reps_of (by omega) (fun i y v hy hv' => ?_)
  rcases h2 i y hy with rfl | ⟨x, hx, rfl | ⟨sz, rfl, rfl⟩⟩
  ·simp only [rep]
  ·obtain ⟨v2, q1, q2⟩ := g2 i x hx
   rw [hv'] at q1; cases q1; exact q2
  ·obtain ⟨v2, q1, q2⟩ := g2 i _ hx
   rw [hv'] at q1; cases q1
   rw [rep_val q2, rep]
   exact ⟨by omega, fun _ => ⟨none, 0, rfl, Nat.le_refl _, Nat.zero_le _, fun _ => rfl, .inl rfl⟩⟩
 refine ⟨E, ⟨hR.len, hR.tmps, hR.defers, ⟨fun k e h => ?_, fun k e h hl => ?_, fun k e h ha => ?_, fun k k' e e' c h h' hl hl' => ?_, hR.hr.zlt, fun k e c h hl => ?_, fun k hk => hR.hr.top k (by rw [setL_eq, List.length_set] at hk; exact hk), hR.hr.gl, fun k u ls h => ?_⟩, ⟨hR.fr.os, hR.fr.tape, hR.fr.output, hR.fr.size, hR.fr.block, hR.fr.grow, fun k e c h hl => ?_⟩, hR.ext, hR.zone, fun k e c h hl => ?_⟩⟩
 ·rcases hw k e h with ⟨rfl, rfl⟩ | ⟨_, h⟩
  ·exact hR.hr.ver k ⟨vb, .obj cells⟩ hb
  ·exact hR.hr.ver k e h
 ·rcases hw k e h with ⟨rfl, rfl⟩ | ⟨_, h⟩
  ·have hent := hR.hr.ent k _ hb ⟨rfl, hl.2⟩
   refine ⟨fun _ => ?_, fun _ _ _ q => by cases q⟩
   obtain ⟨cur, T, lo, hi, q1, q2, q3, q4⟩ := hent.blk rfl
   refine ⟨cur, T, lo, hi, q1, q2, by simp only [Bd.count, Bd.sz] at q3 ⊢; rw [← h1]; exact q3, fun i ys hy => ?_⟩
   simp only [Bd.at] at hy
   split at hy
   ·rename_i hi0
    cases hy
    obtain ⟨cs, k1, k2, k3⟩ := q4 i cells (by simp [Bd.at, hi0])
    simp only [Bd.sz] at k1 k3 ⊢
    exact ⟨cs, by rw [← h1]; exact k1, key k2, fun j u hu => by rw [← h1]; exact k3 j u hu⟩
   ·cases hy
  ·exact hR.hr.ent k e h hl
 ·rcases hw k e h with ⟨rfl, rfl⟩ | ⟨_, h⟩
  ·have := hR.hr.abs k _ hb ha; cases this
  ·exact hR.hr.abs k e h ha
 ·obtain ⟨e0, q1, q2⟩ := hblk k e c h hl
  obtain ⟨e1, q3, q4⟩ := hblk k' e' c h' hl'
  exact hR.hr.inj k k' e0 e1 c q1 q3 q2 q4
 ·obtain ⟨e0, q1, q2⟩ := hblk k e c h hl
  exact hR.hr.zrow k e0 c q1 q2
 ·rcases hw k _ h with ⟨_, h⟩ | ⟨_, h⟩
  ·cases h
  ·exact hR.hr.pool k u ls h
 ·obtain ⟨e0, q1, q2⟩ := hblk k e c h hl
  exact hR.fr.rows k e0 c q1 q2
 ·obtain ⟨e0, q1, q2⟩ := hblk k e c h hl
  exact hR.rows k e0 c q1 q2
theorem leTn_refl (r v' : Nat) : ∀ (l : List AV), leTn r v' l l
 | [] => trivial
 | x :: l => ⟨.inr (.inl rfl), leTn_refl r v' l⟩
theorem leS_nilB {s : St} {b vb r v' sz : Nat} {bd' : Bd} {e : Ent} (hb : getL s.H b = some ⟨vb, .obj [.val (.slice none 0 0)]⟩) (hr : getL s.H r = some e) (hbr : Nat.beq b r = false) (hv : e.ver < v') (hc : bd'.count = 0) : leS s ⟨s.t, setL (setL s.H r ⟨v', bd'⟩) b ⟨vb, .obj [.own r v' sz 0 0]⟩⟩ := by
 have hne : b ≠ r := fun q => by rw [q, Nat.beq_refl] at hbr; cases hbr
 have hrl : r < s.H.length := by rw [getL_eq] at hr; exact (List.getElem?_eq_some_iff.1 hr).1
 refine leS_trans (leS_nil r v' bd' hr hv hc (leTn_refl r v' s.t)) (leS_cells (r := r) (v' := v') (cells := [.val (.slice none 0 0)]) (cells' := [.own r v' sz 0 0]) (er := ⟨v', bd'⟩) ?_ ?_ rfl ⟨.inr (.inr ⟨sz, rfl, rfl⟩), trivial⟩)
 ·show getL (setL s.H r _) b = _
  rw [getL_eq, setL_eq, List.getElem?_set_ne (Ne.symm hne), ← getL_eq]; exact hb
 ·show getL (setL s.H r _) r = _
  rw [getL_eq, setL_eq, List.getElem?_set_self hrl]
theorem loop_le {B : (Ex → St → Prop) → St → Prop} {Q : Ex → St → Prop} {s s' : St} (h : leS s s') (k : loopK B Q s') : loopK B Q s := by
 unfold loopK at k ⊢
 obtain ⟨σ, I, μ, x0, h0, hI⟩ := k
 exact ⟨σ, I, μ, x0, leS_trans h h0, hI⟩
end
end Go.Proofs.YtmjpbmcbcppkfaaGreatDoor
