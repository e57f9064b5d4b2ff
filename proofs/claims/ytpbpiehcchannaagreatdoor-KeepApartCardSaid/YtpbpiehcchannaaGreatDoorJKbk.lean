/- What is done with a book whose store is a map of variables. Conditions: none. -/
import Derived.Test.YtpbpiehcchannaaGreatDoorJKbj
import Derived.Test.YtpbpiehcchannaaGreatDoorJKbm
namespace Go.Proofs.YtpbpiehcchannaaGreatDoor
open Go.RowKit
set_option linter.unusedVariables false
set_option linter.unusedSimpArgs false
set_option maxRecDepth 100000
set_option maxHeartbeats 1500000
theorem keyV_inj {a b : ByteArray} {g h : List UInt8} (hg : g.length = 16) (hh : h.length = 16) (e : keyV a g = keyV b h) : a = b ∧ g = h := by
 unfold keyV at e
 have e1 : g = h := by
  have := congrArg (List.take 16) e
  rwa [List.take_left' hg, List.take_left' hh] at this
 have e2 : a.data.toList = b.data.toList := by
  have := congrArg (List.drop 16) e
  rwa [List.drop_left' hg, List.drop_left' hh] at this
 exact ⟨by rw [← strOf_toList a, e2, strOf_toList], e1⟩
theorem Goes.delK {B : Int} {n k : Nat} {s : FlS} (g : Goes B n k s) (c : Nat) (key : List UInt8) : Goes (B + 1) n k (s.del c key).2 := by
 unfold FlS.del
 split
 ·exact g.mono (by omega)
 ·split
  ·exact g.mono (by omega)
  ·exact g.kill _ _ _
theorem NB.del {s : FlS} {y i : Nat} {M : List RK} (h : NB s y i M) (key : List UInt8) :
    (s.del 1 key = (3, s) ∧ NB s y (i + 1) M) ∨ (∃ s', s.del 1 key = (0, s') ∧ NB s' y (i + 1) (M.filter fun r => r.key != key)) := by
 obtain ⟨G, h1, h2⟩ := h.ex
 have hgo := h.go.delK 1 key
 obtain ⟨a, b⟩ := h2.del key
 by_cases hf : ∃ r ∈ M, r.key = key
 ·obtain ⟨s', e, n⟩ := b hf
  rw [e] at hgo
  refine .inr ⟨s', e, ⟨G, by push_cast; omega, n⟩, hgo.mono (by push_cast; omega), fun r hr => h.rc r (List.mem_filter.1 hr).1, ?_⟩
  have := List.length_filter_le (fun r : RK => r.key != key) M
  have := h.len
  omega
 ·exact .inl ⟨a fun r hr e => hf ⟨r, hr, e⟩, h.up⟩
theorem rcd_mark {M : List RK} (h : ∀ r ∈ M, ∃ v, VOk v ∧ r = rcdV v) : ∀ r ∈ M, r.key ≠ markK := by
 intro r hr e
 obtain ⟨v, hv, rfl⟩ := h r hr
 have hl := congrArg List.length e
 have : (keyV v.nm v.g).length = 4 := hl
 unfold keyV at this
 rw [List.length_append, hv.ok.g] at this
 omega
theorem mark_ne {v : VarV} (hv : VOk v) : kV v ≠ markK := by
 intro e
 have hl := congrArg List.length e
 unfold kV keyV at hl
 rw [List.length_append, hv.ok.g] at hl
 have : markK.length = 4 := rfl
 omega
theorem kget_badK (s : FlS) (c : Nat) (nm : ByteArray) (hn : nm.size ≤ 140737488355328) (g : List UInt8) (hr : rightN nm = false) (vk vs va vb v0 v1 : Nat) : Spec Tryz.prog 44 [.ref 0 vk 1 0 0, .val (.string nm), .agg (bytesA 16 g)] [⟨vk, .obj [.ref 1 vs 3 0 0]⟩, ⟨vs, .obj [.ref 4 v0 6 0 0, .ref 2 va 3 0 0, .ref 3 vb 3 0 0]⟩, ⟨va, .obj [.ref 4 v0 6 0 0, .val (.int .i64 ((0 : Nat) : Int)), .val (.int .i64 (c : Int))]⟩, ⟨vb, .obj [.ref 4 v0 6 0 0, .val (.int .i64 (c : Int)), .val (.int .i64 (c : Int))]⟩, ⟨v0, .obj [.own 5 v1 1 0 s.l.length, .val (.int .i64 (s.k : Int)), .val (.int .i64 s.ar), .val (.int .i64 s.pt), .val (.bool s.dd), .val (.int .i64 s.wr)]⟩, ⟨v1, .bytes s.l⟩]
   (pms (.tup [.agg (varA (.val (.slice none 0 0)) varZ), .val (.bool false), .val (.int .i64 1)]) [⟨vk, .obj [.ref 1 vs 3 0 0]⟩, ⟨vs, .obj [.ref 4 v0 6 0 0, .ref 2 va 3 0 0, .ref 3 vb 3 0 0]⟩, ⟨va, .obj [.ref 4 v0 6 0 0, .val (.int .i64 ((0 : Nat) : Int)), .val (.int .i64 (c : Int))]⟩, ⟨vb, .obj [.ref 4 v0 6 0 0, .val (.int .i64 (c : Int)), .val (.int .i64 (c : Int))]⟩, ⟨v0, .obj [.own 5 v1 1 0 s.l.length, .val (.int .i64 (s.k : Int)), .val (.int .i64 s.ar), .val (.int .i64 s.pt), .val (.bool s.dd), .val (.int .i64 s.wr)]⟩, ⟨v1, .bytes s.l⟩] []) := by
 have hKy := key_no nm hn g hr
 refine spec_entry tbOk Tryz.func44 rfl Tryz.ntmps44 Tryz.results44 ?_
 refine gg (k := ?_)
 refine cdet (hKy) Tryz.call97 (hon := rowu) [] ?_
 refine gg (k := ?_)
 exact ⟨_, rfl, rfl, trivial⟩
theorem nextA_tup (ks : List (List UInt8)) (beh : List UInt8) : ∃ (a : ByteArray) (b : List UInt8) (e : Int), nextA ks beh = .tup [.val (.string a), .agg (bytesA 16 b), .val (.int .i64 e)] := by
 unfold nextA
 cases nextK ks beh with
 | some k => exact ⟨_, _, _, rfl⟩
 | none => exact ⟨_, _, _, rfl⟩
def OwnV (v : VarV) (o : OpV) : Prop := v.nm = o.v.nm ∧ v.g = o.v.g ∧ (o.K = 1 ∨ o.K = 2)
theorem NB.there {s : FlS} {y i : Nat} {M : List RK} (h : NB s y i M) {nm : ByteArray} {g : List UInt8} (hg : g.length = 16) (hm : ∃ r ∈ M, r.key = keyV nm g) : ∃ v, VOk v ∧ rcdV v ∈ M ∧ v.nm = nm ∧ v.g = g := by
 obtain ⟨r, hr, e⟩ := hm
 rcases h.rc r hr with ⟨v, hv, rfl⟩ | ⟨x, rfl⟩
 ·obtain ⟨e1, e2⟩ := keyV_inj hv.ok.g hg e
  exact ⟨v, hv, hr, e1, e2⟩
 ·have := congrArg List.length e
  unfold keyV at this
  rw [List.length_append, hg] at this
  have h4 : markK.length = 4 := rfl
  simp only at this
  omega
theorem does_step {s : FlS} {y i : Nat} {M : List RK} (h : NB s y i M) (hy : 128 ≤ y ∧ y ≤ 2175) (hi : i ≤ 900) (hM : ∀ r ∈ M, ∃ v, VOk v ∧ r = rcdV v) {V : List VarV} (hS : VS M V) (hVl : V.length ≤ 100) (o : OpV) (ho : o.Ok) (h6 : o.K ≠ 6) (vk vs va vb v0 v1 : Nat) :
    ∃ (x : AV) (u : VarV) (n : Int) (is : Bool) (e : Int) (s' : FlS) (M' : List RK), (x = .val (.slice none 0 0) ∨ ∃ l, x = .bs 0 l) ∧ Spec Tryz.prog 48 [.val (.pointer none), .ref 0 vk 1 0 0, .agg (opA o)] [⟨vk, .obj [.ref 1 vs 3 0 0]⟩, ⟨vs, .obj [.ref 4 v0 6 0 0, .ref 2 va 3 0 0, .ref 3 vb 3 0 0]⟩, ⟨va, .obj [.ref 4 v0 6 0 0, .val (.int .i64 ((0 : Nat) : Int)), .val (.int .i64 (1 : Int))]⟩, ⟨vb, .obj [.ref 4 v0 6 0 0, .val (.int .i64 (1 : Int)), .val (.int .i64 (1 : Int))]⟩, ⟨v0, .obj [.own 5 v1 1 0 s.l.length, .val (.int .i64 (s.k : Int)), .val (.int .i64 s.ar), .val (.int .i64 s.pt), .val (.bool s.dd), .val (.int .i64 s.wr)]⟩, ⟨v1, .bytes s.l⟩] (pms (.tup [.agg (toldA x u n is e), .ref 0 vk 1 0 0]) [⟨vk, .obj [.ref 1 vs 3 0 0]⟩, ⟨vs, .obj [.ref 4 v0 6 0 0, .ref 2 va 3 0 0, .ref 3 vb 3 0 0]⟩, ⟨va, .obj [.ref 4 v0 6 0 0, .val (.int .i64 ((0 : Nat) : Int)), .val (.int .i64 (1 : Int))]⟩, ⟨vb, .obj [.ref 4 v0 6 0 0, .val (.int .i64 (1 : Int)), .val (.int .i64 (1 : Int))]⟩, ⟨v0, .obj [.own 5 v1 1 0 s'.l.length, .val (.int .i64 (s'.k : Int)), .val (.int .i64 s'.ar), .val (.int .i64 s'.pt), .val (.bool s'.dd), .val (.int .i64 s'.wr)]⟩, ⟨v1, .bytes s'.l⟩] []) ∧ NB s' y (i + 1) M' ∧ (∀ v, VOk v → rcdV v ∈ M → ¬ OwnV v o → rcdV v ∈ M') ∧ ((o.K = 5 ∧ e = 0 ∧ (⟨markK, [u8 o.x], true⟩ : RK) ∈ M') ∨ (¬ (o.K = 5 ∧ e = 0) ∧ ∀ r ∈ M', r.key ≠ markK)) := by
 have hk := rcd_mark hM
 have la := lie0 hy
 have lb := lie1 hy
 have hgo := h.go
 have hlk := h.lk
 have hW : (14 + (i : Int) * 300000000000) ≤ 1000000000000000 := by omega
 have hov := ho.v
 -- what leaves the store as it is
 have still : ∀ (x : AV) (u : VarV) (n : Int) (is : Bool) (e : Int), o.K ≠ 5 → (x = .val (.slice none 0 0) ∨ ∃ l, x = .bs 0 l) → Spec Tryz.prog 48 [.val (.pointer none), .ref 0 vk 1 0 0, .agg (opA o)] [⟨vk, .obj [.ref 1 vs 3 0 0]⟩, ⟨vs, .obj [.ref 4 v0 6 0 0, .ref 2 va 3 0 0, .ref 3 vb 3 0 0]⟩, ⟨va, .obj [.ref 4 v0 6 0 0, .val (.int .i64 ((0 : Nat) : Int)), .val (.int .i64 (1 : Int))]⟩, ⟨vb, .obj [.ref 4 v0 6 0 0, .val (.int .i64 (1 : Int)), .val (.int .i64 (1 : Int))]⟩, ⟨v0, .obj [.own 5 v1 1 0 s.l.length, .val (.int .i64 (s.k : Int)), .val (.int .i64 s.ar), .val (.int .i64 s.pt), .val (.bool s.dd), .val (.int .i64 s.wr)]⟩, ⟨v1, .bytes s.l⟩] (pms (.tup [.agg (toldA x u n is e), .ref 0 vk 1 0 0]) [⟨vk, .obj [.ref 1 vs 3 0 0]⟩, ⟨vs, .obj [.ref 4 v0 6 0 0, .ref 2 va 3 0 0, .ref 3 vb 3 0 0]⟩, ⟨va, .obj [.ref 4 v0 6 0 0, .val (.int .i64 ((0 : Nat) : Int)), .val (.int .i64 (1 : Int))]⟩, ⟨vb, .obj [.ref 4 v0 6 0 0, .val (.int .i64 (1 : Int)), .val (.int .i64 (1 : Int))]⟩, ⟨v0, .obj [.own 5 v1 1 0 s.l.length, .val (.int .i64 (s.k : Int)), .val (.int .i64 s.ar), .val (.int .i64 s.pt), .val (.bool s.dd), .val (.int .i64 s.wr)]⟩, ⟨v1, .bytes s.l⟩] []) → ∃ (x : AV) (u : VarV) (n : Int) (is : Bool) (e : Int) (s' : FlS) (M' : List RK), (x = .val (.slice none 0 0) ∨ ∃ l, x = .bs 0 l) ∧ Spec Tryz.prog 48 [.val (.pointer none), .ref 0 vk 1 0 0, .agg (opA o)] [⟨vk, .obj [.ref 1 vs 3 0 0]⟩, ⟨vs, .obj [.ref 4 v0 6 0 0, .ref 2 va 3 0 0, .ref 3 vb 3 0 0]⟩, ⟨va, .obj [.ref 4 v0 6 0 0, .val (.int .i64 ((0 : Nat) : Int)), .val (.int .i64 (1 : Int))]⟩, ⟨vb, .obj [.ref 4 v0 6 0 0, .val (.int .i64 (1 : Int)), .val (.int .i64 (1 : Int))]⟩, ⟨v0, .obj [.own 5 v1 1 0 s.l.length, .val (.int .i64 (s.k : Int)), .val (.int .i64 s.ar), .val (.int .i64 s.pt), .val (.bool s.dd), .val (.int .i64 s.wr)]⟩, ⟨v1, .bytes s.l⟩] (pms (.tup [.agg (toldA x u n is e), .ref 0 vk 1 0 0]) [⟨vk, .obj [.ref 1 vs 3 0 0]⟩, ⟨vs, .obj [.ref 4 v0 6 0 0, .ref 2 va 3 0 0, .ref 3 vb 3 0 0]⟩, ⟨va, .obj [.ref 4 v0 6 0 0, .val (.int .i64 ((0 : Nat) : Int)), .val (.int .i64 (1 : Int))]⟩, ⟨vb, .obj [.ref 4 v0 6 0 0, .val (.int .i64 (1 : Int)), .val (.int .i64 (1 : Int))]⟩, ⟨v0, .obj [.own 5 v1 1 0 s'.l.length, .val (.int .i64 (s'.k : Int)), .val (.int .i64 s'.ar), .val (.int .i64 s'.pt), .val (.bool s'.dd), .val (.int .i64 s'.wr)]⟩, ⟨v1, .bytes s'.l⟩] []) ∧ NB s' y (i + 1) M' ∧ (∀ v, VOk v → rcdV v ∈ M → ¬ OwnV v o → rcdV v ∈ M') ∧ ((o.K = 5 ∧ e = 0 ∧ (⟨markK, [u8 o.x], true⟩ : RK) ∈ M') ∨ (¬ (o.K = 5 ∧ e = 0) ∧ ∀ r ∈ M', r.key ≠ markK)) := fun x u n is e h5 hx hsp => ⟨x, u, n, is, e, s, M, hx, hsp, h.up, fun v _ hm _ => hm, .inr ⟨fun q => h5 q.1, hk⟩⟩
 by_cases k0 : o.K = 0
 ·cases hr : rightN o.v.nm with
  | false => exact still _ _ _ _ _ (by omega) (.inr ⟨_, rfl⟩) (does21_getno s o ho k0 vk vs va vb v0 v1 1 (kget_badK s 1 o.v.nm hov.nm o.v.g hr vk vs va vb v0 v1))
  | true =>
   by_cases hm : ∃ r ∈ M, r.key = keyV o.v.nm o.v.g
   ·obtain ⟨v, hv, hvm, e1, e2⟩ := h.there hov.g hm
    have hG := kget_in s 1 hlk hgo la lb v hv.ok hv.r hv.t (by have := hv.d; omega) hvm vk vs va vb v0 v1
    rw [e1, e2] at hG
    exact still _ _ _ _ _ (by omega) (.inr ⟨_, rfl⟩) (does21_get s o ho k0 vk vs va vb v0 v1 v (by have := hv.d; omega) hG)
   ·exact still _ _ _ _ _ (by omega) (.inr ⟨_, rfl⟩) (does21_getno s o ho k0 vk vs va vb v0 v1 0 (kget_no s 1 hlk hgo la lb o.v.nm o.v.g hov.g hr (fun r hr' e => hm ⟨r, hr', e⟩) vk vs va vb v0 v1))
 by_cases k1 : o.K = 1
 ·have hsp := does21_put s hgo hW la lb h.live o ho k1 vk vs va vb v0 v1
  rcases h.put hy (by omega) o.v hov with ⟨a, b⟩ | ⟨a, b, c⟩
  ·exact ⟨_, _, _, _, _, _, M, .inl rfl, hsp, a, fun v _ hm _ => hm, .inr ⟨fun q => by omega, hk⟩⟩
  ·refine ⟨_, _, _, _, _, _, _, .inl rfl, hsp, b, fun v hv hm hno => ?_, .inr ⟨fun q => by omega, fun r hr => ?_⟩⟩
   ·unfold setM
    refine List.mem_append_left _ (List.mem_filter.2 ⟨hm, ?_⟩)
    simp only [bne_iff_ne, ne_eq]
    intro e
    obtain ⟨e1, e2⟩ := keyV_inj hv.ok.g hov.g e
    exact hno ⟨e1, e2, .inl k1⟩
   ·unfold setM at hr
    rcases List.mem_append.1 hr with q | q
    ·exact hk r (List.mem_filter.1 q).1
    ·rw [List.mem_singleton] at q; subst q; exact mark_ne a
 by_cases k2 : o.K = 2
 ·have hsp := does21_drop s hgo hW la lb o ho k2 vk vs va vb v0 v1
  cases hr : rightN o.v.nm with
  | false =>
   rw [show kdropP s o.v.nm o.v.g = (1, s) from if_neg (by rw [hr]; simp)] at hsp
   exact still _ _ _ _ _ (by omega) (.inl rfl) hsp
  | true =>
   rw [show kdropP s o.v.nm o.v.g = s.del 1 (keyV o.v.nm o.v.g) from if_pos hr] at hsp
   rcases h.del (keyV o.v.nm o.v.g) with ⟨e, a⟩ | ⟨s', e, a⟩
   ·rw [e] at hsp
    exact still _ _ _ _ _ (by omega) (.inl rfl) hsp
   ·rw [e] at hsp
    refine ⟨_, _, _, _, _, _, _, .inl rfl, hsp, a, fun v hv hm hno => List.mem_filter.2 ⟨hm, ?_⟩, .inr ⟨fun q => by omega, fun r hr => hk r (List.mem_filter.1 hr).1⟩⟩
    simp only [bne_iff_ne, ne_eq]
    intro e
    obtain ⟨e1, e2⟩ := keyV_inj hv.ok.g hov.g e
    exact hno ⟨e1, e2, .inr k2⟩
 by_cases k3 : o.K = 3
 ·have hkl : ∀ k ∈ V.map kV, k.length ≤ 140737488355328 := by
    intro k hk
    obtain ⟨v, hv, rfl⟩ := List.mem_map.1 hk
    have := (keyV_len (hS.ok v hv).1).2
    unfold kV
    omega
  have hkn : (V.map kV).length ≤ 140737488355328 := by rw [List.length_map]; omega
  cases hr : rightN o.v.nm with
  | true =>
   have hN := knext_vc s 1 hlk hgo la lb (V.map kV) hS.ks hkl hkn o.v.nm hr o.v.g hov.g vk vs va vb v0 v1
   obtain ⟨a, b, e, hab⟩ := nextA_tup (V.map kV) (keyV o.v.nm o.v.g)
   rw [hab] at hN
   exact still _ _ _ _ _ (by omega) (.inl rfl) (does21_next s o ho k3 vk vs va vb v0 v1 a b e hN)
  | false =>
   by_cases hne : o.v.nm.data.toList = []
   ·have hem : o.v.nm = ByteArray.empty := by rw [← strOf_toList o.v.nm, hne]; rfl
    have hN := knext_any s 1 hlk hgo la lb (V.map kV) hS.ks hkl hkn o.v.g vk vs va vb v0 v1
    rw [← hem] at hN
    obtain ⟨a, b, e, hab⟩ := nextA_tup (V.map kV) []
    rw [hab] at hN
    exact still _ _ _ _ _ (by omega) (.inl rfl) (does21_next s o ho k3 vk vs va vb v0 v1 a b e hN)
   ·exact still _ _ _ _ _ (by omega) (.inl rfl) (does21_next s o ho k3 vk vs va vb v0 v1 _ _ _ (knext_bad s 1 o.v.nm hov.nm hr (decide_eq_false hne) o.v.g vk vs va vb v0 v1))
 by_cases k4 : o.K = 4
 ·exact still _ _ _ _ _ (by omega) (.inl rfl) (does21_mark s o ho k4 vk vs va vb v0 v1 0 (by decide) (kmark_no s 1 hlk hgo la lb hk vk vs va vb v0 v1))
 by_cases k5 : o.K = 5
 ·have hsp := does21_note s hgo hW la lb h.live o ho k5 vk vs va vb v0 v1
  rcases h.set hy (by omega) (key := markK) (val := [u8 o.x]) (by decide) (by show (1 : Nat) ≤ _; decide) (.inr ⟨_, rfl⟩) with ⟨e, a⟩ | ⟨s', e, a⟩
  ·rw [e] at hsp
   exact ⟨_, _, _, _, _, _, M, .inl rfl, hsp, a, fun v _ hm _ => hm, .inr ⟨fun q => absurd q.2 (by decide : ¬ (5 : Int) = 0), hk⟩⟩
  ·rw [e] at hsp
   refine ⟨_, _, _, _, _, _, _, .inl rfl, hsp, a, fun v hv hm _ => ?_, .inl ⟨k5, rfl, ?_⟩⟩
   ·unfold setM
    refine List.mem_append_left _ (List.mem_filter.2 ⟨hm, ?_⟩)
    simp only [bne_iff_ne, ne_eq]
    exact mark_ne hv
   ·unfold setM
    exact List.mem_append_right _ (List.mem_singleton.2 rfl)
 ·exact still _ _ _ _ _ (by omega) (.inl rfl) (does21_other s o ho (by omega) vk vs va vb v0 v1)
end Go.Proofs.YtpbpiehcchannaaGreatDoor
