/- What becomes of a bank where the power goes: the plain law. A store whose power goes: the plain law. A store beside the document's map, where the power goes: the plain law. A store whose power is armed, and there again: the plain law. Conditions: the premises of each law. -/
import Derived.Test.YtpbpiehcchannaaGreatDoorJHp
import Derived.Test.YtpbpiehcchannaaGreatDoorJHq
namespace Go.Proofs.YtpbpiehcchannaaGreatDoor
set_option linter.unusedVariables false
set_option linter.unusedSimpArgs false
def TailOk (T : List UInt8) : Prop := T = List.replicate T.length 255 ∨ T.head? = some 254
theorem TailOk.ff (m : Nat) : TailOk (List.replicate m 255) := .inl (by rw [List.length_replicate])
theorem TailOk.head {T : List UInt8} (h : TailOk T) : ∀ b, T.head? = some b → b = 255 ∨ b = 254 := fun b hb => by
 rcases h with h | h
 ·rw [h] at hb; exact .inl (ff_head hb)
 ·rw [h] at hb; exact .inr (Option.some.inj hb).symm
theorem TailOk.clean {T : List UInt8} (h : TailOk T) (hb : decide (T.head? ≠ some 254) = true) : T = List.replicate T.length 255 := h.resolve_right (of_decide_eq_true hb)
structure BT (s : FlS) (a c : Nat) (P H : List UInt8) (l : List Rc) (T Q : List UInt8) : Prop where
 img : s.l = P ++ (H ++ (encL l ++ (T ++ Q)))
 P : P.length = a * s.k
 H : H.length = 16
 n : 16 + (encL l).length + T.length = c * s.k
 pl : Placed 16 l
 tl : TailOk T
def Cmo (x : Int × FlS) (k : Nat) (A D : FlS → Prop) : Prop := (x.1 = 0 ∧ x.2.dd = false ∧ x.2.k = k ∧ A x.2) ∨ (x.1 = 6 ∧ x.2.dd = true ∧ x.2.k = k ∧ D x.2)
theorem Cmo.mono {x : Int × FlS} {k : Nat} {A D A' D' : FlS → Prop} (h : Cmo x k A D) (ha : ∀ s, A s → A' s) (hd : ∀ s, D s → D' s) : Cmo x k A' D' := by
 rcases h with ⟨h1, h2, h3, h4⟩ | ⟨h1, h2, h3, h4⟩
 ·exact .inl ⟨h1, h2, h3, ha _ h4⟩
 ·exact .inr ⟨h1, h2, h3, hd _ h4⟩
section
variable {s : FlS} {a c : Nat} {P H : List UInt8} {l l1 l2 : List Rc} {d : Rc} {m : Nat} {T Q X : List UInt8} {g : Int}
theorem BI.bt (h : BI s a c P H l m Q) : BT s a c P H l (List.replicate m 255) Q := ⟨h.img, h.P, h.H, by rw [List.length_replicate]; exact h.n, h.pl, .ff m⟩
theorem BT.bi (h : BT s a c P H l (List.replicate m 255) Q) (hd : s.dd = false) : BI s a c P H l m Q := ⟨h.img, h.P, h.H, by have := h.n; rw [List.length_replicate] at this; exact this, h.pl, hd⟩
theorem BT.same {s' : FlS} (h : BT s a c P H l T Q) (hl : s'.l = s.l) (hk : s'.k = s.k) : BT s' a c P H l T Q := ⟨by rw [hl]; exact h.img, by rw [hk]; exact h.P, h.H, by rw [hk]; exact h.n, h.pl, h.tl⟩
theorem BT.scan (h : BT s a c P H l T Q) : s.scan a c = (l, 16 + (encL l).length, decide (T.head? ≠ some 254)) := scan_of h.img h.P h.H h.n h.pl h.tl.head
theorem BT.add (h : BT s a c P H l (List.replicate m 255) Q) (hd : s.dd = false) (ho : OkR d) (hl : d.lv = true) (hat : d.at_ = 16 + (encL l).length) (hm : lenR d ≤ m) :
    Cmo (s.add a c d.key d.val) s.k (fun s' => BT s' a c P H (l ++ [d]) (List.replicate (m - lenR d) 255) Q) (fun s' => ∃ T, BT s' a c P H l T Q) := by
 have b := h.bi hd
 by_cases har : s.ar ≤ 0 ∨ (lenR d + 1 : Int) < s.ar
 ·obtain ⟨s', e, b', k', _⟩ := b.add_all ho hl hat hm har
  exact .inl ⟨by rw [e], by rw [e]; exact b'.dd, by rw [e]; exact k', by rw [e]; exact b'.bt⟩
 ·have hn := b.n
  have hH := b.H
  have hP := b.P
  obtain ⟨y, w, e, hy, hb⟩ := add3_cutT (s := s) (A := (a : Int) * s.k + ((16 + (encL l).length : Nat) : Int)) (d := d) (p := P ++ (H ++ encL l)) (r := Q) (m := m) hd (by
   simp only [List.length_append, hH, hP, Int.natCast_add, Int.natCast_mul]) (by rw [b.img]; simp) hm (by omega) (by omega)
  rw [add_eq ho hd b.scan (by omega), e]
  refine .inr ⟨rfl, rfl, rfl, y, ⟨by simp, hP, hH, by rw [hy]; exact hn, b.pl, ?_⟩⟩
  rcases hb with hb | hb
  ·rw [hb]; exact .ff m
  ·exact .inr hb
theorem BT.kill_eq (h : BT s a c P H (l1 ++ d :: l2) T Q) (hd : s.dd = false) : s.kill a c (l1.length : Int) = s.prog ((P ++ (H ++ encL l1)).length : Int) [248] := by
 obtain ⟨h1, h2, h3⟩ := placed_mid h.pl
 unfold FlS.kill
 rw [hd, if_neg (by simp), h.scan, if_neg (by simp only [List.length_append, List.length_cons]; omega)]
 have e : ((l1 ++ d :: l2).map fun r => (r.at_ : Int)).getD (l1.length : Int).toNat 0 = d.at_ := by
  rw [Int.toNat_natCast, List.getD_eq_getElem?_getD, List.map_append, List.getElem?_append_right (by simp)]
  simp
 have e2 : ((a : Int) * s.k + (d.at_ : Int)) = ((P ++ (H ++ encL l1)).length : Int) := by
  rw [h1]
  simp only [List.length_append, h.P, h.H, Int.natCast_add, Int.natCast_mul]
 simp only [e, e2]
theorem BT.kill_img (h : BT s a c P H (l1 ++ d :: l2) T Q) : s.l = (P ++ (H ++ encL l1)) ++ ([if d.lv then 252 else 248] ++ (layB d.key d.val ++ (encL l2 ++ (T ++ Q)))) := by
 rw [h.img, encL_append, encL_cons]
 simp [encR]
theorem BT.kill (h : BT s a c P H (l1 ++ d :: l2) T Q) (hd : s.dd = false) : Cmo (s.kill a c (l1.length : Int)) s.k (fun s' => BT s' a c P H (l1 ++ d.die :: l2) T Q) (fun s' => BT s' a c P H (l1 ++ d :: l2) T Q) := by
 rw [h.kill_eq hd]
 by_cases har : s.ar ≤ 0 ∨ 1 < s.ar
 ·rw [prog_all (m := [248]) (p := P ++ (H ++ encL l1)) (q := [if d.lv then 252 else 248]) hd rfl rfl h.kill_img (by simp only [List.length_singleton]; omega)]
  have hz : List.zipWith (· &&& ·) [if d.lv then (252 : UInt8) else 248] [248] = [248] := by cases d.lv <;> rfl
  rw [hz, die_img]
  refine .inl ⟨rfl, rfl, rfl, ⟨rfl, h.P, h.H, ?_, (placed_mid h.pl).2.2, h.tl⟩⟩
  rw [die_len]; exact h.n
 ·have har1 : s.ar = 1 := by omega
  rw [prog_cut (m := [248]) (p := P ++ (H ++ encL l1)) (q := [if d.lv then 252 else 248]) hd rfl rfl h.kill_img (by omega) (by simp only [List.length_singleton]; omega)]
  refine .inr ⟨rfl, rfl, rfl, h.same ?_ rfl⟩
  rw [har1]
  show (P ++ (H ++ encL l1)) ++ ([if d.lv then 252 else 248] ++ (layB d.key d.val ++ (encL l2 ++ (T ++ Q)))) = _
  rw [← h.kill_img]
def Raw (X Y : List UInt8) : Prop := Y.length = X.length ∧ (Y = X ∨ Y.head? = some 255 ∨ Y[12]? = some 255)
theorem format_com (hd : s.dd = false) (hk : 0 < s.k) (hl : s.l = P ++ (X ++ Q)) (hP : P.length = a * s.k) (hX : X.length = c * s.k) (h64 : 64 ≤ c * s.k) (g : Int) :
    Cmo (s.format a c g) s.k (fun s' => BT s' a c P (headB g ++ [255, 255, 255, 255]) [] (List.replicate (c * s.k - 16) 255) Q) (fun s' => ∃ Y, s'.l = P ++ (Y ++ Q) ∧ Raw X Y) := by
 by_cases har : s.ar ≤ 0 ∨ (c : Int) + 12 < s.ar
 ·rw [format_all (g := g) hd hk hl hP hX (by omega) har]
  refine .inl ⟨rfl, rfl, rfl, ⟨?_, hP, by simp [headB_len], ?_, trivial, .ff _⟩⟩
  ·show P ++ (headB g ++ (List.replicate (c * s.k - 12) 255 ++ Q)) = _
   rw [rep_split (by omega : 4 ≤ c * s.k - 12), show c * s.k - 12 - 4 = c * s.k - 16 by omega]
   simp [encL, List.replicate_succ]
  ·show 16 + (encL []).length + (List.replicate (c * s.k - 16) (255 : UInt8)).length = c * s.k
   simp only [encL, List.flatMap_nil, List.length_nil, List.length_replicate]; omega
 ·obtain ⟨Y, w, e, h1, h2⟩ := format_cut (g := g) hd hk hl hP hX (by omega) (by omega) (by omega)
  rw [e]
  exact .inr ⟨rfl, rfl, rfl, Y, rfl, h1, h2⟩
theorem BT.ready (h : BT s a c P (headB g ++ [255, 255, 255, 255]) l T Q) (hd : s.dd = false) : Cmo (s.prog ((a : Int) * (s.k : Int) + 12) [254]) s.k (fun s' => BT s' a c P (headR g) l T Q) (fun s' => BT s' a c P (headB g ++ [255, 255, 255, 255]) l T Q) := by
 have hB := headB_len g
 have hA : (a : Int) * (s.k : Int) + 12 = ((P ++ headB g).length : Int) := by simp only [List.length_append, h.P, hB, Int.natCast_add, Int.natCast_mul]; rfl
 have hi : s.l = P ++ headB g ++ ([255] ++ ([255, 255, 255] ++ (encL l ++ (T ++ Q)))) := by rw [h.img]; simp
 by_cases har : s.ar ≤ 0 ∨ 1 < s.ar
 ·rw [prog_all (m := [254]) (p := P ++ headB g) (q := [255]) (r := [255, 255, 255] ++ (encL l ++ (T ++ Q))) hd hA rfl hi (by simp only [List.length_singleton]; omega)]
  refine .inl ⟨rfl, rfl, rfl, ⟨?_, h.P, headR_len g, h.n, h.pl, h.tl⟩⟩
  show P ++ headB g ++ ([255 &&& 254] ++ ([255, 255, 255] ++ (encL l ++ (T ++ Q)))) = _
  rw [ff_and]
  simp [headR]
 ·have har1 : s.ar = 1 := by omega
  rw [prog_cut (m := [254]) (p := P ++ headB g) (q := [255]) (r := [255, 255, 255] ++ (encL l ++ (T ++ Q))) hd hA rfl hi (by omega) (by simp only [List.length_singleton]; omega)]
  refine .inr ⟨rfl, rfl, rfl, h.same ?_ rfl⟩
  rw [har1]
  show P ++ headB g ++ ([255] ++ ([255, 255, 255] ++ (encL l ++ (T ++ Q)))) = _
  rw [← hi]
end
theorem BT.adds {a c : Nat} {P H Q : List UInt8} : ∀ (K : List RK) {s : FlS} {l : List Rc} {m : Nat}, BT s a c P H l (List.replicate m 255) Q → s.dd = false → (∀ r ∈ K, OkK r) → usedK K ≤ m →
    Cmo (s.adds a c K) s.k (fun s' => BT s' a c P H (l ++ placeK (16 + (encL l).length) K) (List.replicate (m - usedK K) 255) Q) (fun s' => ∃ l' T, BT s' a c P H l' T Q)
 | [], s, l, m, h, hd, _, _ => .inl ⟨rfl, hd, rfl, by show BT s a c P H (l ++ []) _ Q; rw [List.append_nil]; exact h⟩
 | r :: K, s, l, m, h, hd, hK, hm => by
  have hr := hK r (List.mem_cons_self ..)
  simp only [usedK] at hm
  have h1 := h.add (d := ⟨r.key, r.val, true, 16 + (encL l).length⟩) hd ⟨hr.1, hr.2⟩ rfl rfl (by show 12 + r.key.length + r.val.length ≤ m; omega)
  show Cmo (if (s.add a c r.key r.val).1 = 0 then (s.add a c r.key r.val).2.adds a c K else s.add a c r.key r.val) s.k _ _
  rcases h1 with ⟨e1, d1, k1, b1⟩ | ⟨e1, d1, k1, T, b1⟩
  ·have e1' : (s.add a c r.key r.val).1 = 0 := e1
   have k1' : (s.add a c r.key r.val).2.k = s.k := k1
   rw [if_pos e1']
   have ih := BT.adds K b1 d1 (fun x hx => hK x (List.mem_cons_of_mem _ hx)) (by show usedK K ≤ m - (12 + r.key.length + r.val.length); omega)
   have el : (encL (l ++ [(⟨r.key, r.val, true, 16 + (encL l).length⟩ : Rc)])).length = (encL l).length + (12 + r.key.length + r.val.length) := by
    rw [encL_append, List.length_append]
    show (encL l).length + (encL [(⟨r.key, r.val, true, 16 + (encL l).length⟩ : Rc)]).length = _
    simp only [encL, List.flatMap_cons, List.flatMap_nil, List.append_nil, encR_len]
    rfl
   rw [List.append_assoc, el] at ih
   have ep : placeK (16 + (encL l).length) (r :: K) = ⟨r.key, r.val, true, 16 + (encL l).length⟩ :: placeK (16 + ((encL l).length + (12 + r.key.length + r.val.length))) K := by
    rw [placeK, Nat.add_assoc]
   have em : m - usedK (r :: K) = m - lenR ⟨r.key, r.val, true, 16 + (encL l).length⟩ - usedK K := by
    unfold lenR; simp only [usedK]; omega
   rw [ep, em, ← k1']
   exact ih
  ·have e1' : (s.add a c r.key r.val).1 = 6 := e1
   rw [if_neg (by rw [e1']; decide)]
   exact .inr ⟨e1', d1, k1, l, T, b1⟩
theorem BT.raw {s : FlS} {a c : Nat} {P X Q : List UInt8} {g : Int} {l : List Rc} {T : List UInt8} (h : BT s a c P (headB g ++ [255, 255, 255, 255]) l T Q) (hX : X.length = c * s.k) : ∃ Y, s.l = P ++ (Y ++ Q) ∧ Raw X Y := by
 have hB := headB_len g
 refine ⟨(headB g ++ [255, 255, 255, 255]) ++ (encL l ++ T), by rw [h.img]; simp, ?_, .inr (.inr ?_)⟩
 ·have := h.n
  simp only [List.length_append, hB, List.length_cons, List.length_nil]; omega
 ·rw [List.append_assoc, List.getElem?_append_right (by omega), hB]; rfl
theorem bgn_com {s : FlS} {a c : Nat} {P X Q : List UInt8} (hd : s.dd = false) (hk : 0 < s.k) (hl : s.l = P ++ (X ++ Q)) (hP : P.length = a * s.k) (hX : X.length = c * s.k) (h64 : 64 ≤ c * s.k) (g : Int) (K : List RK) (hK : ∀ r ∈ K, OkK r) (hm : usedK K ≤ c * s.k - 16) :
    Cmo (s.bgn a c g K) s.k (fun s' => BT s' a c P (headR g) (placeK 16 K) (List.replicate (c * s.k - 16 - usedK K) 255) Q) (fun s' => ∃ Y, s'.l = P ++ (Y ++ Q) ∧ Raw X Y) := by
 have h1 := format_com hd hk hl hP hX h64 g
 unfold FlS.bgn
 rcases h1 with ⟨e1, d1, k1, b1⟩ | ⟨e1, d1, k1, b1⟩
 ·rw [if_pos e1]
  have h2 := BT.adds K b1 d1 hK hm
  rcases h2 with ⟨e2, d2, k2, b2⟩ | ⟨e2, d2, k2, l', T, b2⟩
  ·rw [if_pos e2]
   rw [List.nil_append] at b2
   rcases BT.ready b2 d2 with ⟨e3, d3, k3, b3⟩ | ⟨e3, d3, k3, b3⟩
   ·exact .inl ⟨e3, d3, by rw [k3, k2, k1], b3⟩
   ·exact .inr ⟨e3, d3, by rw [k3, k2, k1], b3.raw (by rw [k3, k2, k1]; exact hX)⟩
  ·rw [if_neg (by rw [e2]; decide)]
   exact .inr ⟨e2, d2, by rw [k2, k1], b2.raw (by rw [k2, k1]; exact hX)⟩
 ·rw [if_neg (by rw [e1]; decide)]
  exact .inr ⟨e1, d1, k1, b1⟩
/-! a store -/
theorem head_ff {Y : List UInt8} (h : Y.head? = some 255 ∨ Y[12]? = some 255) : (headO Y).2 = false := by
 unfold headO
 rcases h with h | h
 ·rw [if_neg]
  intro q
  have := congrArg List.head? q
  cases Y with
  | nil => cases h
  | cons b X =>
   rw [List.head?_cons] at h
   obtain rfl := Option.some.inj h
   rw [List.take_succ_cons, List.take_succ_cons, List.head?_cons] at this
   exact absurd (Option.some.inj this) (by show ¬ ((255 : UInt8) = 76); decide)
 ·split
  ·show decide ((((Y.take 16).getD 12 0).toNat : Int) = 254) = false
   rw [List.getD_eq_getElem?_getD, List.getElem?_take_of_lt (by decide), h]
   rfl
  ·rfl
structure NT (s : FlS) (c k i : Nat) (g : Int) (l : List Rc) (T O : List UInt8) : Prop where
 bt : BT s (i * c) c (if i = 0 then [] else O) (headR g) l T (if i = 0 then O else [])
 hk : s.k = k
 hi : i = 0 ∨ i = 1
 hO : O.length = c * k
 hg : 0 ≤ g ∧ g ≤ 4294967295
 oth : (headO O).2 = false ∨ (headO O).1 < g
 big : 64 ≤ c * k
section
variable {s s' : FlS} {c k i : Nat} {g : Int} {l : List Rc} {T O : List UInt8}
theorem NT.same (h : NT s c k i g l T O) (hl : s'.l = s.l) (hk : s'.k = s.k) : NT s' c k i g l T O := ⟨h.bt.same hl hk, by rw [hk, h.hk], h.hi, h.hO, h.hg, h.oth, h.big⟩
theorem NT.cnt (h : NT s c k i g l T O) (hd : s.dd = false) : s.cnt c = (i, g, true) := by
 have hH := headR_len g
 have him := h.bt.img
 have hn := h.bt.n
 have hk := h.hk
 have hO := h.hO
 have hb := h.big
 rcases h.hi with rfl | rfl
 ·simp only [if_true] at him
  have h0 : s.head 0 = (g, true, 0) := head_is (a := 0) (P := []) (Q := encL l ++ (T ++ O)) hd him (by simp) h.hg
  have h1 : s.head c = ((headO O).1, (headO O).2, 0) := head_of hd (by
   rw [him, hk]
   have e : (headR g ++ (encL l ++ (T ++ O))) = (headR g ++ (encL l ++ T)) ++ O := by simp
   rw [List.nil_append, e, List.drop_left' (by simp only [List.length_append, hH]; rw [hk] at hn; omega)])
  unfold FlS.cnt
  rw [h0, h1, if_neg]
  intro q
  rcases h.oth with o | o
  ·rw [o] at q; cases q.1
  ·rcases q.2 with q | q
   ·cases q
   ·simp only at q; omega
 ·simp only [if_neg (by decide : ¬ (1 : Nat) = 0)] at him
  have h1 : s.head c = (g, true, 0) := head_is (a := c) (P := O) (Q := encL l ++ (T ++ [])) hd him (by rw [hO, hk]) h.hg
  have h0 : s.head 0 = ((headO O).1, (headO O).2, 0) := head_of hd (by
   rw [Nat.zero_mul, List.drop_zero, him, List.take_append_of_le_length (by omega)])
  unfold FlS.cnt
  rw [h0, h1, if_pos]
  refine ⟨rfl, ?_⟩
  rcases h.oth with o | o
  ·exact .inl o
  ·exact .inr o
theorem NT.recs (h : NT s c k i g l T O) (hd : s.dd = false) : s.recs c = (l, 16 + (encL l).length, decide (T.head? ≠ some 254)) := by
 unfold FlS.recs
 rw [h.cnt hd]
 exact h.bt.scan
theorem NT.recK (h : NT s c k i g l T O) (hd : s.dd = false) : s.recK c = l.map rkOf := by
 unfold FlS.recK
 rw [h.recs hd]
theorem NT.other (h : NT s c k i g l T O) (hk : s'.k = s.k) {Y : List UInt8} (hY : Raw O Y) (hl : s'.l = (if i = 0 then headR g ++ (encL l ++ T) else []) ++ (Y ++ (if i = 0 then [] else headR g ++ (encL l ++ T)))) : NT s' c k i g l T Y := by
 refine ⟨⟨?_, ?_, h.bt.H, by rw [hk]; exact h.bt.n, h.bt.pl, h.bt.tl⟩, by rw [hk, h.hk], h.hi, by rw [hY.1, h.hO], h.hg, ?_, h.big⟩
 ·rw [hl]
  rcases h.hi with rfl | rfl
  ·simp
  ·simp
 ·rcases h.hi with rfl | rfl
  ·simp
  ·simp only [if_neg (by decide : ¬ (1 : Nat) = 0)]
   rw [hY.1, hk, h.hk, h.hO, Nat.one_mul]
 ·rcases hY.2 with e | e
  ·rw [e]; exact h.oth
  ·exact .inl (head_ff e)
theorem NT.copy (h : NT s c k i g l T O) (hd : s.dd = false) (hk0 : 0 < k) (hg : g < 4294967295) (K : List RK) (hK : ∀ r ∈ K, OkK r) (hm : usedK K ≤ c * k - 16) :
    Cmo (s.copy c K) k (fun s' => ∃ O', NT s' c k (1 - i) (g + 1) (placeK 16 K) (List.replicate (c * k - 16 - usedK K) 255) O') (fun s' => ∃ O', NT s' c k i g l T O') := by
 have hn := h.bt.n
 have hH := headR_len g
 have hk := h.hk
 have him := h.bt.img
 have hO := h.hO
 have hg0 := h.hg
 have hbig := h.big
 have hot := fun (s' : FlS) (Y : List UInt8) => h.other (s' := s') (Y := Y)
 rw [hk] at hn
 unfold FlS.copy
 rw [h.cnt hd]
 simp only
 rw [if_neg (by omega)]
 have hOl : (headR g ++ (encL l ++ T)).length = c * k := by simp only [List.length_append, hH]; omega
 have hoo := headO_R g h.hg (encL l ++ T)
 rcases h.hi with rfl | rfl
 ·simp only [if_true] at him
  have hb := bgn_com (s := s) (a := c) (c := c) (P := headR g ++ (encL l ++ T)) (X := O) (Q := []) hd (by omega) (by rw [him]; simp) (by rw [hOl, hk]) (by rw [hO, hk]) (by rw [hk]; exact hbig) (g + 1) K hK (by rw [hk]; exact hm)
  rw [show (1 - 0) * c = c by omega]
  rcases hb with ⟨e, d, k1, b⟩ | ⟨e, d, k1, Y, hl, hY⟩
  ·refine .inl ⟨e, d, by rw [k1, hk], headR g ++ (encL l ++ T), ⟨?_, by rw [k1, hk], .inr rfl, hOl, by omega, .inr (by rw [hoo]; simp only; omega), hbig⟩⟩
   rw [hk] at b
   simp only [show (1 - 0 : Nat) = 1 from rfl, Nat.one_mul]
   exact b
  ·exact .inr ⟨e, d, by rw [k1, hk], Y, hot _ Y k1 hY (by rw [hl]; simp)⟩
 ·simp only [if_neg (by decide : ¬ (1 : Nat) = 0)] at him
  have hb := bgn_com (s := s) (a := 0) (c := c) (P := []) (X := O) (Q := headR g ++ (encL l ++ T)) hd (by omega) (by rw [him]; simp) (by simp) (by rw [hO, hk]) (by rw [hk]; exact hbig) (g + 1) K hK (by rw [hk]; exact hm)
  rw [show (1 - 1) * c = 0 by omega]
  rcases hb with ⟨e, d, k1, b⟩ | ⟨e, d, k1, Y, hl, hY⟩
  ·refine .inl ⟨e, d, by rw [k1, hk], headR g ++ (encL l ++ T), ⟨?_, by rw [k1, hk], .inl rfl, hOl, by omega, .inr (by rw [hoo]; simp only; omega), hbig⟩⟩
   rw [hk] at b
   simp only [show (1 - 1 : Nat) = 0 from rfl, Nat.zero_mul]
   exact b
  ·exact .inr ⟨e, d, by rw [k1, hk], Y, hot _ Y k1 hY (by rw [hl]; simp)⟩
end
end Go.Proofs.YtpbpiehcchannaaGreatDoor
namespace Go.Proofs.YtpbpiehcchannaaGreatDoor
set_option linter.unusedVariables false
set_option linter.unusedSimpArgs false
/-! the last record of a key -/
theorem lastI_is {L : List RK} {key : List UInt8} {j : Nat} (h1 : (L.getD j rk0).lv = true ∧ (L.getD j rk0).key = key) : ∀ n, j < n → (∀ i, j < i → i < n → ¬ ((L.getD i rk0).lv = true ∧ (L.getD i rk0).key = key)) → lastI L key n = (j : Int)
 | 0, h, _ => absurd h (Nat.not_lt_zero _)
 | n + 1, h, h2 => by
  unfold lastI
  by_cases hj : j = n
  ·subst hj; rw [if_pos h1]
  ·rw [if_neg (h2 n (by omega) (by omega)), lastI_is h1 n (by omega) fun i a b => h2 i a (by omega)]
theorem lastI_no {L : List RK} {key : List UInt8} : ∀ n, (∀ i, i < n → ¬ ((L.getD i rk0).lv = true ∧ (L.getD i rk0).key = key)) → lastI L key n = -1
 | 0, _ => rfl
 | n + 1, h => by
  unfold lastI
  rw [if_neg (h n (by omega)), lastI_no n fun i a => h i (by omega)]
theorem lastI_gt {L : List RK} {key : List UInt8} {j : Nat} : ∀ n, lastI L key n = (j : Int) → ∀ i, j < i → i < n → ¬ ((L.getD i rk0).lv = true ∧ (L.getD i rk0).key = key)
 | 0, _, i, _, h => absurd h (Nat.not_lt_zero _)
 | n + 1, h, i, h1, h2 => by
  unfold lastI at h
  split at h
  ·omega
  ·rename_i hq
   by_cases hi : i = n
   ·subst hi; exact hq
   ·exact lastI_gt n h i h1 (by omega)
theorem getD_app {L : List RK} {r : RK} {j : Nat} (h : j < L.length) : (L ++ [r]).getD j rk0 = L.getD j rk0 := by
 rw [List.getD_eq_getElem?_getD, List.getD_eq_getElem?_getD, List.getElem?_append_left h]
theorem getD_end {L : List RK} {r : RK} : (L ++ [r]).getD L.length rk0 = r := by
 rw [List.getD_eq_getElem?_getD, List.getElem?_append_right (Nat.le_refl _), Nat.sub_self]; rfl
theorem lastI_app {L : List RK} {r : RK} {key : List UInt8} : ∀ n, n ≤ L.length → lastI (L ++ [r]) key n = lastI L key n
 | 0, _ => rfl
 | n + 1, h => by
  unfold lastI
  rw [getD_app (by omega), lastI_app n (by omega)]
theorem lastK_snoc {L : List RK} {r : RK} (hr : r.lv = true) (key : List UInt8) : lastK (L ++ [r]) key = if r.key = key then (L.length : Int) else lastK L key := by
 unfold lastK
 rw [List.length_append, List.length_singleton, lastI, getD_end, lastI_app _ (Nat.le_refl _)]
 by_cases h : r.key = key
 ·rw [if_pos ⟨hr, h⟩, if_pos h]
 ·rw [if_neg fun q => h q.2, if_neg h]
theorem kept_snoc {L : List RK} {r : RK} (hr : r.lv = true) : keptK (L ++ [r]) = (keptK L).filter (fun x => x.key != r.key) ++ [r] := by
 have hk : keepB (L ++ [r]) L.length = true := by
  unfold keepB
  rw [getD_end, lastK_snoc hr, if_pos rfl]
  simp
 have hI : keptI (L ++ [r]) L.length = (keptI L L.length).filter (fun j => (L.getD j rk0).key != r.key) := by
  unfold keptI
  rw [List.filter_filter]
  refine List.filter_congr fun j hj => ?_
  have hj' := List.mem_range.1 hj
  unfold keepB
  rw [getD_app hj', lastK_snoc hr]
  by_cases h : r.key = (L.getD j rk0).key
  ·rw [if_pos h, decide_eq_false (by omega), ← h]; simp
  ·rw [if_neg h, show ((L.getD j rk0).key != r.key) = true by simpa using Ne.symm h, Bool.true_and]
 unfold keptK
 rw [List.length_append, List.length_singleton, keptI_succ, hk, hI, List.map_append, List.filter_map]
 congr 1
 ·refine List.map_congr_left fun j hj => ?_
  have := (List.mem_filter.1 (List.mem_filter.1 hj).1).1
  exact getD_app (List.mem_range.1 this)
 ·simp only [if_true, List.map_cons, List.map_nil, getD_end]
/-! records that were superseded are killed -/
def rc0 : Rc := ⟨[], [], false, 0⟩
def Sup (L : List RK) (j : Nat) : Prop := (L.getD j rk0).lv = true ∧ lastK L (L.getD j rk0).key ≠ (j : Int)
instance (L : List RK) (j : Nat) : Decidable (Sup L j) := by unfold Sup; exact inferInstance
def tkR (l : List Rc) : Nat → List Rc
 | 0 => l
 | n + 1 => if Sup (l.map rkOf) n then (tkR l n).set n ((tkR l n).getD n rc0).die else tkR l n
theorem tkR_len (l : List Rc) : ∀ n, (tkR l n).length = l.length
 | 0 => rfl
 | n + 1 => by
  unfold tkR
  split
  ·rw [List.length_set, tkR_len l n]
  ·exact tkR_len l n
theorem tkR_ge (l : List Rc) : ∀ n j, n ≤ j → (tkR l n)[j]? = l[j]?
 | 0, j, _ => rfl
 | n + 1, j, h => by
  unfold tkR
  split
  ·rw [List.getElem?_set_ne (by omega), tkR_ge l n j (by omega)]
  ·exact tkR_ge l n j (by omega)
structure Tk (L L' : List RK) (n : Nat) : Prop where
 len : L'.length = L.length
 get : ∀ j, j < L.length → L'.getD j rk0 = if j < n ∧ Sup L j then ⟨(L.getD j rk0).key, (L.getD j rk0).val, false⟩ else L.getD j rk0
theorem rk_getD {l : List Rc} {j : Nat} (h : j < l.length) : (l.map rkOf).getD j rk0 = rkOf l[j] := by
 rw [List.getD_eq_getElem?_getD, List.getElem?_map, List.getElem?_eq_getElem h]; rfl
theorem tkR_Tk (l : List Rc) : ∀ n, n ≤ l.length → Tk (l.map rkOf) ((tkR l n).map rkOf) n
 | 0, _ => ⟨rfl, fun j _ => by rw [if_neg (fun q => absurd q.1 (Nat.not_lt_zero _))]; rfl⟩
 | n + 1, h => by
  have ih := tkR_Tk l n (by omega)
  have hl := tkR_len l n
  refine ⟨by rw [List.length_map, List.length_map, tkR_len], fun j hj => ?_⟩
  have hj' : j < l.length := by rw [List.length_map] at hj; exact hj
  have ij := ih.get j hj
  unfold tkR
  by_cases hs : Sup (l.map rkOf) n
  ·rw [if_pos hs]
   by_cases hjn : j = n
   ·subst hjn
    rw [if_pos ⟨Nat.lt_succ_self _, hs⟩, List.getD_eq_getElem?_getD, List.getElem?_map, List.getElem?_set_self (by omega), rk_getD hj']
    have hx : (tkR l j).getD j rc0 = l[j] := by rw [List.getD_eq_getElem?_getD, tkR_ge l j j (Nat.le_refl _), List.getElem?_eq_getElem hj']; rfl
    rw [hx]
    rfl
   ·have e : (((tkR l n).set n ((tkR l n).getD n rc0).die).map rkOf).getD j rk0 = ((tkR l n).map rkOf).getD j rk0 := by
      rw [List.getD_eq_getElem?_getD, List.getElem?_map, List.getElem?_set_ne (Ne.symm hjn), ← List.getElem?_map, ← List.getD_eq_getElem?_getD]
    rw [e, ij]
    by_cases hjj : j < n ∧ Sup (l.map rkOf) j
    ·rw [if_pos hjj, if_pos ⟨by omega, hjj.2⟩]
    ·rw [if_neg hjj, if_neg fun q => hjj ⟨by omega, q.2⟩]
  ·rw [if_neg hs, ij]
   by_cases hjj : j < n ∧ Sup (l.map rkOf) j
   ·rw [if_pos hjj, if_pos ⟨by omega, hjj.2⟩]
   ·rw [if_neg hjj, if_neg]
    rintro ⟨q1, q2⟩
    by_cases hjn : j = n
    ·subst hjn; exact hs q2
    ·exact hjj ⟨by omega, q2⟩
section
variable {L L' : List RK} {n : Nat}
theorem Tk.key (h : Tk L L' n) {j : Nat} (hj : j < L.length) : (L'.getD j rk0).key = (L.getD j rk0).key := by
 rw [h.get j hj]; split <;> rfl
theorem Tk.lv (h : Tk L L' n) {j : Nat} (hj : j < L.length) (hv : (L'.getD j rk0).lv = true) : L'.getD j rk0 = L.getD j rk0 ∧ ¬ (j < n ∧ Sup L j) := by
 have e := h.get j hj
 by_cases q : j < n ∧ Sup L j
 ·rw [if_pos q] at e; rw [e] at hv; cases hv
 ·rw [if_neg q] at e; exact ⟨e, q⟩
theorem Tk.last (h : Tk L L' n) (key : List UInt8) : lastK L' key = lastK L key := by
 have hlt := lastI_lt L key L.length
 unfold lastK
 rw [h.len]
 by_cases h0 : 0 ≤ lastI L key L.length
 ·obtain ⟨j, hj⟩ : ∃ j : Nat, lastI L key L.length = (j : Int) := ⟨(lastI L key L.length).toNat, by omega⟩
  obtain ⟨j1, j2, j3⟩ := lastI_some _ _ _ _ hj
  have hgt := lastI_gt _ hj
  have hns : ¬ Sup L j := fun q => q.2 (by rw [j3]; exact hj)
  have e : L'.getD j rk0 = L.getD j rk0 := by rw [h.get j j1, if_neg fun q => hns q.2]
  rw [hj]
  refine lastI_is (by rw [e]; exact ⟨j2, j3⟩) _ j1 fun i h1 h2 q => hgt i h1 h2 ?_
  have := (h.lv h2 q.1).1
  rw [this] at q
  exact q
 ·have hno := lastI_none L key L.length (by omega)
  have e1 : lastI L key L.length = -1 := by omega
  rw [e1]
  refine lastI_no _ fun i hi q => hno i hi ?_
  have := (h.lv hi q.1).1
  rw [this] at q
  exact q
theorem Tk.kept (h : Tk L L' n) : keptK L' = keptK L := by
 have hI : keptI L' L'.length = keptI L L.length := by
  unfold keptI
  rw [h.len]
  refine List.filter_congr fun j hj => ?_
  unfold keepB
  rw [h.last, h.key (List.mem_range.1 hj)]
 unfold keptK
 rw [hI]
 refine List.map_congr_left fun j hj => ?_
 obtain ⟨h1, h2⟩ := List.mem_filter.1 hj
 rw [h.get j (List.mem_range.1 h1), if_neg]
 rintro ⟨_, q⟩
 exact q.2 (of_decide_eq_true h2)
theorem Tk.nod (h : Tk L L' L.length) : NodK L' := by
 unfold NodK livK
 rw [List.nodup_iff_pairwise_ne, List.pairwise_map, List.pairwise_filter, List.pairwise_iff_getElem]
 intro i j hi hj hij h1 h2 e
 have hi' : i < L.length := by rw [← h.len]; exact hi
 have hj' : j < L.length := by rw [← h.len]; exact hj
 have gi : L'.getD i rk0 = L'[i] := by rw [List.getD_eq_getElem?_getD, List.getElem?_eq_getElem hi]; rfl
 have gj : L'.getD j rk0 = L'[j] := by rw [List.getD_eq_getElem?_getD, List.getElem?_eq_getElem hj]; rfl
 obtain ⟨ei, ni⟩ := h.lv hi' (by rw [gi]; exact h1)
 obtain ⟨ej, nj⟩ := h.lv hj' (by rw [gj]; exact h2)
 have li : lastK L (L.getD i rk0).key = (i : Int) := by
  refine Classical.byContradiction fun q => ni ⟨hi', ⟨?_, q⟩⟩
  rw [← ei, gi]; exact h1
 have lj : lastK L (L.getD j rk0).key = (j : Int) := by
  refine Classical.byContradiction fun q => nj ⟨hj', ⟨?_, q⟩⟩
  rw [← ej, gj]; exact h2
 rw [← ei, gi, e, ← gj, ej, lj] at li
 omega
end
theorem tidyL_com {a c : Nat} {P H T Q : List UInt8} (l : List Rc) : ∀ (m n : Nat) {s : FlS}, n + m = l.length → BT s a c P H (tkR l n) T Q → s.dd = false → Cmo (s.tidyL a c (l.map rkOf) n m) s.k (fun s' => BT s' a c P H (tkR l l.length) T Q) (fun s' => ∃ n', n' ≤ l.length ∧ BT s' a c P H (tkR l n') T Q)
 | 0, n, s, h, b, hd => by
  obtain rfl : n = l.length := by omega
  exact .inl ⟨rfl, hd, rfl, b⟩
 | m + 1, n, s, h, b, hd => by
  have hlen := tkR_len l n
  rw [FlS.tidyL]
  by_cases hs : Sup (l.map rkOf) n
  ·have hs' : ((l.map rkOf).getD n rk0).lv = true ∧ lastK (l.map rkOf) ((l.map rkOf).getD n rk0).key ≠ (n : Int) := hs
   rw [if_pos hs']
   have hnx : tkR l (n + 1) = (tkR l n).set n ((tkR l n).getD n rc0).die := by rw [tkR, if_pos hs]
   obtain ⟨l1, x, l2, e, hl1⟩ : ∃ l1 d l2, tkR l n = l1 ++ d :: l2 ∧ l1.length = n := ⟨(tkR l n).take n, (tkR l n)[n], (tkR l n).drop (n + 1), by rw [List.getElem_cons_drop, List.take_append_drop], by rw [List.length_take]; omega⟩
   have hnx' : tkR l (n + 1) = l1 ++ x.die :: l2 := by
    rw [hnx, e, ← hl1, List.set_append_right _ _ (Nat.le_refl _), Nat.sub_self, List.set_cons_zero, List.getD_eq_getElem?_getD, List.getElem?_append_right (Nat.le_refl _), Nat.sub_self]
    rfl
   have b0 := b
   rw [e] at b
   have hk := b.kill hd
   rw [hl1] at hk
   rcases hk with ⟨e1, d1, k1, b1⟩ | ⟨e1, d1, k1, b1⟩
   ·rw [if_pos e1, ← k1]
    exact tidyL_com l m (n + 1) (by omega) (by rw [hnx']; exact b1) d1
   ·rw [if_neg (by rw [e1]; decide)]
    exact .inr ⟨e1, d1, k1, n, by omega, by rw [e]; exact b1⟩
  ·have hs' : ¬ (((l.map rkOf).getD n rk0).lv = true ∧ lastK (l.map rkOf) ((l.map rkOf).getD n rk0).key ≠ (n : Int)) := hs
   rw [if_neg hs']
   exact tidyL_com l m (n + 1) (by omega) (by rw [tkR, if_neg hs]; exact b) hd
/-! the store -/
def NW (s : FlS) (c k : Nat) (G : Int) (M : List RK) : Prop := ∃ i g l T O, NT s c k i g l T O ∧ g ≤ G ∧ keptK (l.map rkOf) = M ∧ (∀ r ∈ M, OkK r)
def NN (s : FlS) (c k : Nat) (G : Int) (M : List RK) : Prop := ∃ i g l T O, NT s c k i g l T O ∧ g ≤ G ∧ livK (l.map rkOf) = M ∧ NodK (l.map rkOf) ∧ (∀ r ∈ M, OkK r)
section
variable {s s' : FlS} {c k : Nat} {G G' : Int} {M : List RK}
theorem NN.nw (h : NN s c k G M) : NW s c k G M := by
 obtain ⟨i, g, l, T, O, hn, hg, hM, hN, hK⟩ := h
 exact ⟨i, g, l, T, O, hn, hg, (keptK_liv hN).trans hM, hK⟩
theorem NW.mono (h : NW s c k G M) (hG : G ≤ G') : NW s c k G' M := by
 obtain ⟨i, g, l, T, O, hn, hg, hM, hK⟩ := h
 exact ⟨i, g, l, T, O, hn, by omega, hM, hK⟩
theorem NN.mono (h : NN s c k G M) (hG : G ≤ G') : NN s c k G' M := by
 obtain ⟨i, g, l, T, O, hn, hg, hM, hN, hK⟩ := h
 exact ⟨i, g, l, T, O, hn, by omega, hM, hN, hK⟩
theorem NW.same (h : NW s c k G M) (hl : s'.l = s.l) (hk : s'.k = s.k) : NW s' c k G M := by
 obtain ⟨i, g, l, T, O, hn, hg, hM, hK⟩ := h
 exact ⟨i, g, l, T, O, hn.same hl hk, hg, hM, hK⟩
theorem NN.same (h : NN s c k G M) (hl : s'.l = s.l) (hk : s'.k = s.k) : NN s' c k G M := by
 obtain ⟨i, g, l, T, O, hn, hg, hM, hN, hK⟩ := h
 exact ⟨i, g, l, T, O, hn.same hl hk, hg, hM, hN, hK⟩
theorem NW.lk (h : NW s c k G M) (hd : s.dd = false) : LK s c M := by
 obtain ⟨i, g, l, T, O, hn, hg, hM, hK⟩ := h
 exact ⟨hd, i, l, _, _, hn.hi, by rw [hn.cnt hd], hn.bt.scan, hM⟩
theorem NM.nn (h : NM s c k G M) : NN s c k G M := by
 obtain ⟨i, g, l, m, O, hn, hg, hM, hN, hK⟩ := h
 exact ⟨i, g, l, _, O, ⟨hn.bi.bt, hn.hk, hn.hi, hn.hO, hn.hg, hn.oth, hn.big⟩, hg, hM, hN, hK⟩
theorem NW.opn (h : NW s c k G M) (hd : s.dd = false) : Cmo (s.opn c) k (fun s' => NN s' c k G M) (fun s' => NW s' c k G M) := by
 obtain ⟨i, g, l, T, O, hn, hg, hM, hK⟩ := h
 have hrk := hn.recK hd
 have ht := tidyL_com l l.length 0 (by omega) hn.bt hd
 have hlen : (l.map rkOf).length = l.length := List.length_map ..
 unfold FlS.opn FlS.tidy
 rw [hd, if_neg (by simp), hn.cnt hd, if_neg (by simp), hrk, if_neg (by simp), hlen]
 have hnt : ∀ {s' : FlS} {l' : List Rc}, BT s' (i * c) c (if i = 0 then [] else O) (headR g) l' T (if i = 0 then O else []) → s'.k = s.k → NT s' c k i g l' T O := fun b q => ⟨b, by rw [q, hn.hk], hn.hi, hn.hO, hn.hg, hn.oth, hn.big⟩
 rcases ht with ⟨e, d, q, b⟩ | ⟨e, d, q, n, hle, b⟩
 ·have tk := tkR_Tk l l.length (Nat.le_refl _)
  have nod : NodK ((tkR l l.length).map rkOf) := by
   have tk' : Tk (l.map rkOf) ((tkR l l.length).map rkOf) (l.map rkOf).length := by rw [hlen]; exact tk
   exact tk'.nod
  exact .inl ⟨e, d, by rw [q, hn.hk], i, g, _, T, O, hnt b q, hg, by rw [← keptK_liv nod, tk.kept, hM], nod, hK⟩
 ·exact .inr ⟨e, d, by rw [q, hn.hk], i, g, _, T, O, hnt b q, hg, by rw [(tkR_Tk l n hle).kept, hM], hK⟩
theorem NN.del (h : NN s c k G M) (hd : s.dd = false) (key : List UInt8) :
    ((∀ r ∈ M, r.key ≠ key) → s.del c key = (3, s)) ∧ ((∃ r ∈ M, r.key = key) → Cmo (s.del c key) k (fun s' => NN s' c k G (M.filter fun r => r.key != key)) (fun s' => NW s' c k G M)) := by
 have hlk := h.nw.lk hd
 have hl := hlk.look
 have hw := h.nw
 obtain ⟨i, g, l, T, O, hn, hgG, hM, hN, hK⟩ := h
 have hdel : s.del c key = if lastK (l.map rkOf) key < 0 then (3, s) else s.kill (i * c) c (lastK (l.map rkOf) key) := by
  unfold FlS.del
  rw [hd, hn.recK hd, hn.cnt hd, if_neg (by simp)]
 have hkp : keptK (l.map rkOf) = M := (keptK_liv hN).trans hM
 rw [hdel]
 constructor
 ·intro hk
  rw [if_pos (kept_none (by rw [hkp]; exact hk))]
 ·rintro ⟨r, hr, rfl⟩
  rw [← hkp] at hr
  obtain ⟨j, hj, hjr, hlk⟩ := kept_look hr
  rw [hlk, if_neg (by omega)]
  obtain ⟨j1, j2, j3⟩ := lastI_some _ _ _ _ hlk
  have hjl : j < l.length := by rw [List.length_map] at hj; exact hj
  obtain ⟨l1, x, l2, rfl, rfl⟩ : ∃ l1 d l2, l = l1 ++ d :: l2 ∧ l1.length = j := ⟨l.take j, l[j], l.drop (j + 1), by rw [List.getElem_cons_drop, List.take_append_drop], by rw [List.length_take]; omega⟩
  have hx : ((l1 ++ x :: l2).map rkOf).getD l1.length rk0 = rkOf x := by
   rw [List.getD_eq_getElem?_getD, List.getElem?_map, List.getElem?_append_right (Nat.le_refl _), Nat.sub_self]; rfl
  rw [hx] at j2 j3
  rcases hn.bt.kill hd with ⟨e, d, q, b⟩ | ⟨e, d, q, b⟩
  ·refine .inl ⟨e, d, by rw [q, hn.hk], i, g, _, T, O, ⟨b, by rw [q, hn.hk], hn.hi, hn.hO, hn.hg, hn.oth, hn.big⟩, hgG, ?_, ?_, ?_⟩
   ·rw [← hM, List.map_append, List.map_cons]
    rw [List.map_append, List.map_cons] at hN
    have := liv_kill j2 hN
    rw [← j3, List.map_append, List.map_cons, ← this]
    rfl
   ·unfold NodK at hN ⊢
    rw [List.map_append, List.map_cons] at hN ⊢
    have := liv_kill j2 hN
    rw [show rkOf x.die = ⟨(rkOf x).key, (rkOf x).val, false⟩ from rfl, this]
    exact hN.sublist (List.Sublist.map _ List.filter_sublist)
   ·intro y hy
    exact hK y (List.mem_filter.1 hy).1
  ·exact .inr ⟨e, d, by rw [q, hn.hk], i, g, _, T, O, ⟨b, by rw [q, hn.hk], hn.hi, hn.hO, hn.hg, hn.oth, hn.big⟩, hgG, hkp, hK⟩
theorem NT.put {i : Nat} {g : Int} {l : List Rc} {m : Nat} {O : List UInt8} (h : NT s c k i g l (List.replicate m 255) O) (hd : s.dd = false) {key val : List UInt8} (hk : 1 ≤ key.length ∧ key.length ≤ 255) (hv : val.length ≤ 65536) (hm : 12 + key.length + val.length ≤ m) :
    Cmo (s.put c key val) k (fun s' => ∃ T, NT s' c k i g (killR l (lastK (l.map rkOf) key) ++ [⟨key, val, true, 16 + (encL l).length⟩]) T O) (fun s' => ∃ T, NT s' c k i g l T O ∨ NT s' c k i g (l ++ [⟨key, val, true, 16 + (encL l).length⟩]) T O) := by
 have hlt := lastI_lt (l.map rkOf) key (l.map rkOf).length
 rw [List.length_map] at hlt
 have hL : lastK (l.map rkOf) key = lastI (l.map rkOf) key l.length := by unfold lastK; rw [List.length_map]
 rw [← hL] at hlt
 have hnt : ∀ {s' : FlS} {l' : List Rc} {T : List UInt8}, BT s' (i * c) c (if i = 0 then [] else O) (headR g) l' T (if i = 0 then O else []) → s'.k = s.k → NT s' c k i g l' T O := fun b q => ⟨b, by rw [q, h.hk], h.hi, h.hO, h.hg, h.oth, h.big⟩
 rw [put_eq' (h.cnt hd) rfl h.bt.scan]
 generalize lastK (l.map rkOf) key = L at hlt
 rcases h.bt.add (d := ⟨key, val, true, 16 + (encL l).length⟩) hd ⟨hk, hv⟩ rfl rfl hm with ⟨e1, d1, k1, b1⟩ | ⟨e1, d1, k1, T, b1⟩
 ·have e1' : (s.add (i * c) c key val).1 = 0 := e1
  rw [if_pos e1']
  by_cases h0 : 0 ≤ L
  ·obtain ⟨j, rfl⟩ : ∃ j : Nat, L = (j : Int) := ⟨L.toNat, by omega⟩
   have hj : j < l.length := by omega
   obtain ⟨l1, x, l2, rfl, rfl⟩ : ∃ l1 d l2, l = l1 ++ d :: l2 ∧ l1.length = j := ⟨l.take j, l[j], l.drop (j + 1), by rw [List.getElem_cons_drop, List.take_append_drop], by rw [List.length_take]; omega⟩
   have hKR : killR (l1 ++ x :: l2) (l1.length : Int) = l1 ++ x.die :: l2 := by
    unfold killR
    rw [if_pos h0, Int.toNat_natCast, List.set_append_right _ _ (Nat.le_refl _), Nat.sub_self, List.set_cons_zero, List.getD_eq_getElem?_getD, List.getElem?_append_right (Nat.le_refl _), Nat.sub_self]
    rfl
   rw [if_pos h0, hKR]
   have b1' := b1
   rw [List.append_assoc, List.cons_append] at b1
   rcases b1.kill d1 with ⟨e2, d2, k2, b2⟩ | ⟨e2, d2, k2, b2⟩
   ·exact .inl ⟨e2, d2, by rw [k2]; exact k1.trans h.hk, _, hnt (by rw [List.append_assoc]; exact b2) (k2.trans k1)⟩
   ·exact .inr ⟨e2, d2, by rw [k2]; exact k1.trans h.hk, _, .inr (hnt (by rw [List.append_assoc]; exact b2) (k2.trans k1))⟩
  ·rw [if_neg h0]
   have hKR : killR l L = l := by unfold killR; rw [if_neg h0]
   rw [hKR]
   exact .inl ⟨rfl, d1, k1.trans h.hk, _, hnt b1 k1⟩
 ·have e1' : (s.add (i * c) c key val).1 = 6 := e1
  rw [if_neg (by rw [e1']; decide)]
  exact .inr ⟨e1', d1, k1.trans h.hk, T, .inl (hnt b1 k1)⟩
theorem NN.set (h : NN s c k G M) (hd : s.dd = false) (hk0 : 0 < k) (hG : G < 4294967295) {key val : List UInt8} (hk : 1 ≤ key.length ∧ key.length ≤ 255) (hv : val.length ≤ 65536) :
    (c * k - 16 < usedK M + (12 + key.length + val.length) → s.set c key val = (5, s)) ∧
    (usedK M + (12 + key.length + val.length) ≤ c * k - 16 → Cmo (s.set c key val) k (fun s' => NN s' c k (G + 1) (setM M key val)) (fun s' => NW s' c k (G + 1) M ∨ NW s' c k (G + 1) (setM M key val))) := by
 have hw := h.nw
 obtain ⟨i, g, l, T, O, hn, hgG, hM, hN, hK⟩ := h
 have hbig := hn.big
 have hkk := hn.hk
 have hbn := hn.bt.n
 rw [hkk] at hbn
 have hcs : (c : Int) * (s.k : Int) = ((c * k : Nat) : Int) := by rw [hkk]; simp
 have hkl : keptK (l.map rkOf) = M := (keptK_liv hN).trans hM
 have hset : s.set c key val = if (c : Int) * s.k - 16 < usedK M + (12 + key.length + val.length) then (5, s) else if decide (T.head? ≠ some 254) = false ∨ (c : Int) * s.k - 16 + 16 - ((16 + (encL l).length : Nat) : Int) < 12 + key.length + val.length then (if (s.copy c M).1 = 0 then (if (s.copy c M).2.dd = true then (6, (s.copy c M).2) else (s.copy c M).2.put c key val) else s.copy c M) else s.put c key val := by
  unfold FlS.set
  rw [if_neg (by omega), hd, hn.recK hd, hn.recs hd, hkl]
  simp only [Bool.false_eq_true, if_false]
 rw [hset]
 constructor
 ·intro hf
  rw [if_pos (by omega)]
 ·intro hf
  rw [if_neg (by omega)]
  have okm : ∀ r ∈ setM M key val, OkK r := by
   intro r hr
   unfold setM at hr
   rcases List.mem_append.1 hr with h1 | h1
   ·exact hK r (List.mem_filter.1 h1).1
   ·rw [List.mem_singleton] at h1
    subst h1
    exact ⟨hk, hv⟩
  have fin : ∀ {t : FlS} {i' : Nat} {g' : Int} {l' : List Rc} {m' : Nat} {O' : List UInt8}, NT t c k i' g' l' (List.replicate m' 255) O' → t.dd = false → g' ≤ G + 1 → livK (l'.map rkOf) = M → NodK (l'.map rkOf) → 12 + key.length + val.length ≤ m' → Cmo (t.put c key val) k (fun s' => NN s' c k (G + 1) (setM M key val)) (fun s' => NW s' c k (G + 1) M ∨ NW s' c k (G + 1) (setM M key val)) := by
   intro t i' g' l' m' O' ht htd hg' hl' hN' hm'
   have hpl := put_liv (l := l') (key := key) (val := val) (p := 16 + (encL l').length) hN'
   rw [hl'] at hpl
   refine (ht.put htd hk hv hm').mono (fun s' q => ?_) (fun s' q => ?_)
   ·obtain ⟨T', e2⟩ := q
    refine ⟨i', g', _, T', O', e2, hg', hpl, ?_, okm⟩
    unfold NodK
    rw [hpl]
    unfold NodK at hN'
    rw [hl'] at hN'
    exact nodK_put hN'
   ·obtain ⟨T', e2 | e2⟩ := q
    ·exact .inl ⟨i', g', _, T', O', e2, hg', (keptK_liv hN').trans hl', hK⟩
    ·refine .inr ⟨i', g', _, T', O', e2, hg', ?_, okm⟩
     rw [List.map_append, List.map_cons, List.map_nil, kept_snoc (by rfl), keptK_liv hN', hl']
     rfl
  by_cases hc : decide (T.head? ≠ some 254) = false ∨ (c : Int) * s.k - 16 + 16 - ((16 + (encL l).length : Nat) : Int) < 12 + key.length + val.length
  ·rw [if_pos hc]
   rcases hn.copy hd hk0 (by omega) M hK (by omega) with ⟨e, d, q, O', b⟩ | ⟨e, d, q, O', b⟩
   ·rw [if_pos e, if_neg (by rw [d]; simp)]
    have hlv : ∀ r ∈ M, r.lv = true := by
     intro r hr
     rw [← hM] at hr
     exact (List.mem_filter.1 hr).2
    have hpk := placeK_rk M 16 hlv
    have hlm : livK M = M := by
     unfold livK
     rw [List.filter_eq_self]
     exact hlv
    refine fin b d (by omega) (by rw [hpk, hlm]) ?_ (by omega)
    rw [hpk]
    unfold NodK
    rw [hlm]
    unfold NodK at hN
    rw [hM] at hN
    exact hN
   ·rw [if_neg (by rw [e]; decide)]
    exact .inr ⟨e, d, q, .inl ⟨i, g, l, T, O', b, by omega, hkl, hK⟩⟩
  ·rw [if_neg hc]
   have hcl : T = List.replicate T.length 255 := hn.bt.tl.clean (by
    cases hq : decide (T.head? ≠ some 254) with
    | true => rfl
    | false => exact absurd (.inl hq) hc)
   rw [hcl] at hn
   exact fin hn hd (by omega) hM hN (by omega)
end
end Go.Proofs.YtpbpiehcchannaaGreatDoor
namespace Go.Proofs.YtpbpiehcchannaaGreatDoor
set_option linter.unusedVariables false
set_option linter.unusedSimpArgs false
/-! where no power is to go none goes -/
def Calm (s : FlS) : Prop := s.dd = false ∧ s.ar = 0
theorem progF_calm : ∀ (m : List UInt8) (k : Nat) (c : List UInt8) (w : Int), (progF m k c 0 w).2.2.1 = 0 ∧ (progF m k c 0 w).2.2.2.1 = false
 | [], k, c, w => ⟨rfl, rfl⟩
 | b :: m, k, c, w => by
  rw [progF, if_neg (by omega)]
  simp only [Int.lt_irrefl, if_false]
  exact progF_calm m _ _ _
theorem Calm.prog {s : FlS} (h : Calm s) (A : Int) (m : List UInt8) : Calm (s.prog A m).2 := by
 unfold FlS.prog
 rw [h.1, if_neg (by simp)]
 split
 ·have := progF_calm m A.toNat s.l s.wr
  rw [h.2]
  exact ⟨this.2, this.1⟩
 ·exact h
theorem Calm.kill {s : FlS} (h : Calm s) (a c : Nat) (i : Int) : Calm (s.kill a c i).2 := by
 unfold FlS.kill
 rw [h.1, if_neg (by simp)]
 split
 ·exact h
 ·exact h.prog _ _
theorem Calm.tidyL {a c : Nat} {l : List RK} : ∀ (m k : Nat) {s : FlS}, Calm s → Calm (s.tidyL a c l k m).2
 | 0, k, s, h => h
 | m + 1, k, s, h => by
  rw [FlS.tidyL]
  split
  ·split
   ·exact Calm.tidyL m (k + 1) (h.kill a c k)
   ·exact h.kill a c k
  ·exact Calm.tidyL m (k + 1) h
theorem Calm.opn {s : FlS} (h : Calm s) {c : Nat} (hc : (s.cnt c).2.2 = true) : Calm (s.opn c).2 := by
 unfold FlS.opn FlS.tidy
 rw [h.1, if_neg (by simp), hc, if_neg (by simp), if_neg (by simp)]
 exact h.tidyL _ _
theorem Goes.tidyL {n k : Nat} (a c : Nat) (l : List RK) : ∀ (m j : Nat) {B : Int} {s : FlS}, Goes B n k s → Goes (B + m) n k (s.tidyL a c l j m).2
 | 0, j, B, s, g => g.mono (by omega)
 | m + 1, j, B, s, g => by
  rw [FlS.tidyL]
  split
  ·split
   ·exact (Goes.tidyL a c l m (j + 1) (g.kill a c j)).mono (by omega)
   ·exact (g.kill a c j).mono (by omega)
  ·exact (Goes.tidyL a c l m (j + 1) g).mono (by omega)
theorem Goes.opnR {B : Int} {n k : Nat} {s : FlS} (g : Goes B n k s) {c : Nat} (pa : Lies n k 0 c) (pb : Lies n k c c) (hd : s.dd = false) (hc : (s.cnt c).2.2 = true) : Goes (B + 4194304) n k (s.opn c).2 := by
 have hf : (s.recK c).length ≤ 4194304 := by
  unfold FlS.recK FlS.recs
  rw [List.length_map]
  rcases cnt01 s c with hi | hi
  ·rw [hi, Nat.zero_mul]; exact look_few g pa (l := (s.scan 0 c).1) (e := (s.scan 0 c).2.1) (b := (s.scan 0 c).2.2) rfl
  ·rw [hi, Nat.one_mul]; exact look_few g pb (l := (s.scan c c).1) (e := (s.scan c c).2.1) (b := (s.scan c c).2.2) rfl
 unfold FlS.opn FlS.tidy
 rw [hd, if_neg (by simp), hc, if_neg (by simp), if_neg (by simp)]
 exact (Goes.tidyL _ c _ _ 0 g).mono (by omega)
/-! the store -/
structure SN (s : FlS) (c k i : Nat) (R : List RK) : Prop where
 ex : ∃ (G : Int) (M : List RK), NN s c k G M ∧ RM M R ∧ G ≤ 1 + i
 dd : s.dd = false
 go : Goes (1000 + i * 300000000000) (2 * c * k) k s
 len : R.length ≤ i
 ok : ∀ r ∈ R, OkK r
 lv : ∀ r ∈ R, r.lv = true
structure SW (s : FlS) (c k i : Nat) (R : List RK) : Prop where
 ex : ∃ (G : Int) (M : List RK), NW s c k G M ∧ RM M R ∧ G ≤ 1 + i
 go : Goes (1000 + i * 300000000000) (2 * c * k) k s
 len : R.length ≤ i
 ok : ∀ r ∈ R, OkK r
 lv : ∀ r ∈ R, r.lv = true
section
variable {s s' : FlS} {c k i j : Nat} {R R' : List RK}
theorem SN.sort (h : SN s c k i R) : SortK R := by
 obtain ⟨G, M, _, h2, _⟩ := h.ex
 exact h2.sort
theorem SN.mono (h : SN s c k i R) (hij : i ≤ j) : SN s c k j R := by
 obtain ⟨G, M, h1, h2, h3⟩ := h.ex
 exact ⟨⟨G, M, h1, h2, by omega⟩, h.dd, h.go.mono (by omega), Nat.le_trans h.len hij, h.ok, h.lv⟩
theorem SW.mono (h : SW s c k i R) (hij : i ≤ j) : SW s c k j R := by
 obtain ⟨G, M, h1, h2, h3⟩ := h.ex
 exact ⟨⟨G, M, h1, h2, by omega⟩, h.go.mono (by omega), Nat.le_trans h.len hij, h.ok, h.lv⟩
theorem SN.look (h : SN s c k i R) : ∃ M, LK s c M ∧ RM M R := by
 obtain ⟨G, M, h1, h2, _⟩ := h.ex
 exact ⟨M, h1.nw.lk h.dd, h2⟩
theorem SM.sn (h : SM s c k i R) (lv : ∀ r ∈ R, r.lv = true) : SN s c k i R := by
 obtain ⟨G, M, h1, h2, h3⟩ := h.ex
 exact ⟨⟨G, M, h1.nn, h2, h3⟩, h1.live, h.go, h.len, h.ok, lv⟩
theorem setR_mem {key val : List UInt8} {r : RK} (hr : r ∈ setR R key val) : r ∈ R ∨ r = ⟨key, val, true⟩ := by
 rcases List.mem_append.1 ((insR_perm (delR R key) ⟨key, val, true⟩).mem_iff.1 hr) with hr | hr
 ·exact .inl (List.mem_filter.1 hr).1
 ·rw [List.mem_singleton] at hr; exact .inr hr
theorem SN.set (h : SN s c k i R) (hi : i ≤ 4000000000) (hk : 0 < k) (pa : Lies (2 * c * k) k 0 c) (pb : Lies (2 * c * k) k c c) (key val : List UInt8) :
    ((s.set c key val).1 = setE R ((c * k - 16 : Nat) : Int) key val ∧ SN (s.set c key val).2 c k (i + 1) (setW R ((c * k - 16 : Nat) : Int) key val)) ∨
    ((s.set c key val).1 = 6 ∧ setE R ((c * k - 16 : Nat) : Int) key val = 0 ∧ (s.set c key val).2.dd = true ∧ (SW (s.set c key val).2 c k (i + 1) R ∨ SW (s.set c key val).2 c k (i + 1) (setW R ((c * k - 16 : Nat) : Int) key val))) := by
 obtain ⟨G, M, h1, h2, h3⟩ := h.ex
 have hu := h2.used
 unfold setW
 by_cases hb : key.length < 1 ∨ 255 < key.length ∨ 65536 < val.length
 ·have e : s.set c key val = (1, s) := by unfold FlS.set; rw [if_pos hb]
  have e2 : setE R ((c * k - 16 : Nat) : Int) key val = 1 := if_pos hb
  rw [e, e2, if_neg (by decide)]
  exact .inl ⟨rfl, h.mono (Nat.le_succ i)⟩
 ·have hs := h1.set h.dd hk (by omega : G < 4294967295) (key := key) (val := val) ⟨by omega, by omega⟩ (by omega)
  by_cases hf : ((c * k - 16 : Nat) : Int) < (usedK R + (12 + key.length + val.length) : Nat)
  ·have e := hs.1 (by rw [← hu]; omega)
   have e2 : setE R ((c * k - 16 : Nat) : Int) key val = 5 := by unfold setE; rw [if_neg hb, if_pos hf]
   rw [e, e2, if_neg (by decide)]
   exact .inl ⟨rfl, h.mono (Nat.le_succ i)⟩
  ·have e2 : setE R ((c * k - 16 : Nat) : Int) key val = 0 := by unfold setE; rw [if_neg hb, if_neg hf]
   have gg := h.go.set pa pb key val
   have hok : ∀ r ∈ setR R key val, OkK r := fun r hr => by
    rcases setR_mem hr with hr | rfl
    ·exact h.ok r hr
    ·exact ⟨⟨by show 1 ≤ key.length; omega, by show key.length ≤ 255; omega⟩, by show val.length ≤ 65536; omega⟩
   have hlv : ∀ r ∈ setR R key val, r.lv = true := fun r hr => by
    rcases setR_mem hr with hr | rfl
    ·exact h.lv r hr
    ·rfl
   have hl := Nat.le_trans (setR_len R key val) (Nat.succ_le_succ h.len)
   have hg2 := gg.mono (B' := 1000 + ((i + 1 : Nat) : Int) * 300000000000) (by omega)
   rw [e2, if_pos rfl]
   rcases hs.2 (by rw [← hu]; omega) with ⟨e, d, q, m⟩ | ⟨e, d, q, m⟩
   ·exact .inl ⟨e, ⟨⟨G + 1, _, m, h2.set key val, by omega⟩, d, hg2, hl, hok, hlv⟩⟩
   ·refine .inr ⟨e, rfl, d, ?_⟩
    rcases m with m | m
    ·exact .inl ⟨⟨G + 1, _, m, h2, by omega⟩, hg2, Nat.le_succ_of_le h.len, h.ok, h.lv⟩
    ·exact .inr ⟨⟨G + 1, _, m, h2.set key val, by omega⟩, hg2, hl, hok, hlv⟩
theorem SN.del (h : SN s c k i R) (key : List UInt8) :
    ((s.del c key).1 = delE R key ∧ SN (s.del c key).2 c k (i + 1) (delR R key)) ∨
    ((s.del c key).1 = 6 ∧ delE R key = 0 ∧ (s.del c key).2.dd = true ∧ (SW (s.del c key).2 c k (i + 1) R ∨ SW (s.del c key).2 c k (i + 1) (delR R key))) := by
 obtain ⟨G, M, h1, h2, h3⟩ := h.ex
 have hd := h1.del h.dd key
 by_cases hx : ∃ r ∈ R, r.key = key
 ·have hx' : ∃ r ∈ M, r.key = key := by obtain ⟨r, hr, e⟩ := hx; exact ⟨r, h2.perm.mem_iff.1 hr, e⟩
  have gg := (h.go.del c key).mono (B' := 1000 + ((i + 1 : Nat) : Int) * 300000000000) (by omega)
  rw [delE_in hx]
  rcases hd.2 hx' with ⟨e, d, q, m⟩ | ⟨e, d, q, m⟩
  ·exact .inl ⟨e, ⟨⟨G, _, m, h2.del key, by omega⟩, d, gg, Nat.le_trans (delR_len R key) (Nat.le_succ_of_le h.len), fun r hr => h.ok r (List.mem_filter.1 hr).1, fun r hr => h.lv r (List.mem_filter.1 hr).1⟩⟩
  ·exact .inr ⟨e, rfl, d, .inl ⟨⟨G, _, m, h2, by omega⟩, gg, Nat.le_succ_of_le h.len, h.ok, h.lv⟩⟩
 ·have hx1 : ∀ r ∈ R, r.key ≠ key := fun r hr e => hx ⟨r, hr, e⟩
  have e := hd.1 fun r hr q => hx1 r (h2.perm.mem_iff.2 hr) q
  rw [e, delE_out hx1, delR_out hx1]
  exact .inl ⟨rfl, h.mono (Nat.le_succ i)⟩
theorem NW.rdy {G : Int} {M : List RK} (h : NW s c k G M) (hd : s.dd = false) : (s.cnt c).2.2 = true := by
 obtain ⟨i, g, l, T, O, hn, _⟩ := h
 rw [hn.cnt hd]
theorem SW.opn (h : SW s c k i R) (hd : s.dd = false) (pa : Lies (2 * c * k) k 0 c) (pb : Lies (2 * c * k) k c c) :
    ((s.opn c).1 = 0 ∧ SN (s.opn c).2 c k (i + 1) R) ∨ ((s.opn c).1 = 6 ∧ (s.opn c).2.dd = true ∧ SW (s.opn c).2 c k (i + 1) R) := by
 obtain ⟨G, M, h1, h2, h3⟩ := h.ex
 have gg := (h.go.opnR pa pb hd (h1.rdy hd)).mono (B' := 1000 + ((i + 1 : Nat) : Int) * 300000000000) (by omega)
 rcases h1.opn hd with ⟨e, d, q, m⟩ | ⟨e, d, q, m⟩
 ·exact .inl ⟨e, ⟨⟨G, M, m, h2, by omega⟩, d, gg, Nat.le_succ_of_le h.len, h.ok, h.lv⟩⟩
 ·exact .inr ⟨e, d, ⟨⟨G, M, m, h2, by omega⟩, gg, Nat.le_succ_of_le h.len, h.ok, h.lv⟩⟩
end
end Go.Proofs.YtpbpiehcchannaaGreatDoor
namespace Go.Proofs.YtpbpiehcchannaaGreatDoor
set_option linter.unusedVariables false
set_option linter.unusedSimpArgs false
def FlS.armS (s : FlS) (x y : Int) : FlS := ⟨s.l, s.k, x, y, false, s.wr⟩
def FlS.onS (s : FlS) : FlS := ⟨s.l, s.k, 0, s.pt, false, s.wr⟩
section
variable {s : FlS} {c k i : Nat} {R : List RK}
theorem arm_eq (hd : s.dd = false) {x y : Int} (hx : 0 ≤ x) (hy : 0 ≤ y) : s.arm x y = (0, s.armS x y) := by
 unfold FlS.arm
 rw [hd, if_neg (by simp), if_neg (by omega)]
 rfl
theorem on_eq (hd : s.dd = true) : s.on = (0, s.onS) := by
 unfold FlS.on
 rw [hd, if_pos rfl]
 rfl
theorem Goes.armS {B : Int} {n k : Nat} (g : Goes B n k s) {x y : Int} (hx : 0 ≤ x ∧ x ≤ 65535) (hy : 0 ≤ y ∧ y ≤ 65535) : Goes B n k (s.armS x y) :=
 ⟨g.len, g.kk, ⟨by show (-9223372036854775808 : Int) ≤ x; omega, by show x ≤ 9223372036854775807; omega⟩, ⟨hy.1, by show (-9223372036854775808 : Int) ≤ y; omega, by show y ≤ 9223372036854775807; omega⟩, g.wr, g.l, g.k⟩
theorem Goes.onS {B : Int} {n k : Nat} (g : Goes B n k s) : Goes B n k s.onS := ⟨g.len, g.kk, ⟨by show (-9223372036854775808 : Int) ≤ 0; decide, by show (0 : Int) ≤ 9223372036854775807; decide⟩, g.pt, g.wr, g.l, g.k⟩
theorem SN.armS (h : SN s c k i R) {x y : Int} (hx : 0 ≤ x ∧ x ≤ 65535) (hy : 0 ≤ y ∧ y ≤ 65535) : SN (s.armS x y) c k i R := by
 obtain ⟨G, M, h1, h2, h3⟩ := h.ex
 exact ⟨⟨G, M, h1.same rfl rfl, h2, h3⟩, rfl, h.go.armS hx hy, h.len, h.ok, h.lv⟩
theorem SW.armS (h : SW s c k i R) {x y : Int} (hx : 0 ≤ x ∧ x ≤ 65535) (hy : 0 ≤ y ∧ y ≤ 65535) : SW (s.armS x y) c k i R := by
 obtain ⟨G, M, h1, h2, h3⟩ := h.ex
 exact ⟨⟨G, M, h1.same rfl rfl, h2, h3⟩, h.go.armS hx hy, h.len, h.ok, h.lv⟩
theorem SW.onS (h : SW s c k i R) : SW s.onS c k i R := by
 obtain ⟨G, M, h1, h2, h3⟩ := h.ex
 exact ⟨⟨G, M, h1.same rfl rfl, h2, h3⟩, h.go.onS, h.len, h.ok, h.lv⟩
theorem SW.rdy (h : SW s c k i R) (hd : s.dd = false) : (s.cnt c).2.2 = true := by
 obtain ⟨G, M, h1, _⟩ := h.ex
 exact h1.rdy hd
theorem SW.opnC (h : SW s c k i R) (hc : Calm s) (pa : Lies (2 * c * k) k 0 c) (pb : Lies (2 * c * k) k c c) : (s.opn c).1 = 0 ∧ SN (s.opn c).2 c k (i + 1) R := by
 rcases h.opn hc.1 pa pb with h1 | ⟨_, h2, _⟩
 ·exact h1
 ·have := (hc.opn (h.rdy hc.1)).1
  rw [h2] at this; cases this
end
theorem setW_facts {R : List RK} (ok : ∀ r ∈ R, OkK r) (lv : ∀ r ∈ R, r.lv = true) (room : Int) (key val : List UInt8) : (∀ r ∈ setW R room key val, OkK r) ∧ (setW R room key val).length ≤ R.length + 1 ∧ (∀ r ∈ setW R room key val, r.lv = true) := by
 unfold setW
 split
 ·rename_i he
  have hb : ¬ (key.length < 1 ∨ 255 < key.length ∨ 65536 < val.length) := fun q => by
   unfold setE at he
   rw [if_pos q] at he
   cases he
  refine ⟨fun r hr => ?_, setR_len R key val, fun r hr => ?_⟩
  ·rcases setR_mem hr with hr | rfl
   ·exact ok r hr
   ·exact ⟨⟨by show 1 ≤ key.length; omega, by show key.length ≤ 255; omega⟩, by show val.length ≤ 65536; omega⟩
  ·rcases setR_mem hr with hr | rfl
   ·exact lv r hr
   ·rfl
 ·exact ⟨ok, Nat.le_succ _, lv⟩
theorem delR_facts {R : List RK} (ok : ∀ r ∈ R, OkK r) (lv : ∀ r ∈ R, r.lv = true) (key : List UInt8) : (∀ r ∈ delR R key, OkK r) ∧ (delR R key).length ≤ R.length + 1 ∧ (∀ r ∈ delR R key, r.lv = true) :=
 ⟨fun r hr => ok r (List.mem_filter.1 hr).1, Nat.le_succ_of_le (delR_len R key), fun r hr => lv r (List.mem_filter.1 hr).1⟩
theorem eq_of_eqR {R R' : List RK} (h : ∀ r ∈ R, r.lv = true) (h' : ∀ r ∈ R', r.lv = true) (he : ksR R = ksR R' ∧ vsR R = vsR R') : R = R' := by
 induction R generalizing R' with
 | nil => cases R' with
  | nil => rfl
  | cons r R' => cases he.1
 | cons r R ih => cases R' with
  | nil => cases he.1
  | cons r' R' =>
   obtain ⟨e1, e2⟩ := List.cons.inj he.1
   obtain ⟨e3, e4⟩ := List.cons.inj he.2
   have hl := h r (List.mem_cons_self ..)
   have hl' := h' r' (List.mem_cons_self ..)
   have := ih (fun x hx => h x (List.mem_cons_of_mem _ hx)) (fun x hx => h' x (List.mem_cons_of_mem _ hx)) ⟨e2, e4⟩
   subst this
   obtain ⟨a, b, c⟩ := r
   obtain ⟨a', b', c'⟩ := r'
   simp only at e1 e3 hl hl'
   subst e1 e3 hl hl'
   rfl
end Go.Proofs.YtpbpiehcchannaaGreatDoor
