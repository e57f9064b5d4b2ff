/- A law for a region that draws its order: each operation is walked once, under what the operations that it waits for have left; what it leaves must be stable under what the others may do (a preorder G on worlds). Then the region comes to its end in every order. Conditions: the premises of 'wp_region_rg'. -/
import Derived.Orders
import Derived.Tactics
namespace Go.Proofs.YtmjpbmcbcppkfaaGreatDoor

theorem mem_ready' {md : Region.Mode} {ops : Array Oper} {listed : Array Bool} {i : Nat} (h : i ∈ Region.ready md ops listed) :
    i < ops.size ∧ listed.getD i true = false ∧ ∃ o, ops[i]? = some o ∧ ∀ e ∈ o.after, Region.binds md e = true → listed.getD e.on false = true := by
 unfold Region.ready at h
 obtain ⟨h1, h2⟩ := List.mem_filter.1 h
 simp only [Bool.and_eq_true, Bool.not_eq_true'] at h2
 have hi := List.mem_range.1 h1
 refine ⟨hi, h2.1, ops[i], by simp [hi], fun e he hb => ?_⟩
 have h3 := h2.2
 simp only [Array.getElem?_eq_getElem hi, Option.map_some, Option.getD_some] at h3
 have := Array.all_eq_true'.1 h3 e he
 simpa [hb] using this

def depB (md : Region.Mode) (ops : Array Oper) : Nat → Nat → Nat → Bool
 | 0, _, _ => false
 | f + 1, i, j => match ops[i]? with
  | none => false
  | some o => o.after.any fun e => Region.binds md e && (e.on == j || depB md ops f e.on j)
def ownB (md : Region.Mode) (ops : Array Oper) (i t : Nat) : Bool :=
 (List.range ops.size).all fun k => !(((ops[k]?).bind (·.dst)) == some t) || depB md ops ops.size k i || k == i
def backB (md : Region.Mode) (ops : Array Oper) : Bool :=
 (List.range ops.size).all fun i => match ops[i]? with | none => true | some o => o.after.all fun e => !Region.binds md e || decide (e.on < i)
def distinctB (ops : Array Oper) (n : Nat) : Bool :=
 (List.range ops.size).all fun i => (match (ops[i]?).bind (·.dst) with | none => true | some d => decide (d < n)) &&
  (List.range ops.size).all fun j => i == j || !((ops[i]?).bind (·.dst)).isSome || ((ops[i]?).bind (·.dst)) != ((ops[j]?).bind (·.dst))

def putL (ops : Array Oper) (listed : Nat → Bool) (vs : Nat → Value) : List Nat → Act → Act
 | [], a => a
 | i :: l, a => putL ops listed vs l (if listed i then a.put ((ops[i]?).bind (·.dst)) (vs i) else a)
theorem putL_congr {ops : Array Oper} {f g : Nat → Bool} {vs us : Nat → Value} : ∀ (l : List Nat) (a : Act), (∀ i ∈ l, f i = g i ∧ (f i = true → vs i = us i)) → putL ops f vs l a = putL ops g us l a
 | [], _, _ => rfl
 | i :: l, a, h => by
  have hi := h i (by simp)
  unfold putL
  rw [← hi.1]
  have ih := fun a => putL_congr (ops := ops) (f := f) (g := g) (vs := vs) (us := us) l a (fun j hj => h j (by simp [hj]))
  cases hf : f i
  ·simp only [Bool.false_eq_true, if_false]; exact ih a
  ·simp only [if_true, hi.2 hf]; exact ih _
theorem act_put_comm (a : Act) {x y : Option Tmp} (v u : Value) (h : ∀ d, x = some d → y ≠ some d) : (a.put x v).put y u = (a.put y u).put x v := by
 cases x with
 | none => rfl
 | some d =>
  cases y with
  | none => rfl
  | some e =>
   have hne : d ≠ e := fun he => h d rfl (he ▸ rfl)
   simp [Act.put, Array.setIfInBounds_comm _ _ hne]
theorem putL_put {ops : Array Oper} {f : Nat → Bool} {vs : Nat → Value} {x : Option Tmp} {v : Value} : ∀ (l : List Nat) (a : Act), (∀ j ∈ l, ∀ d, (ops[j]?).bind (·.dst) = some d → x ≠ some d) →
    putL ops f vs l (a.put x v) = (putL ops f vs l a).put x v
 | [], _, _ => rfl
 | j :: l, a, h => by
  unfold putL
  have ih := fun a => putL_put (ops := ops) (f := f) (vs := vs) (x := x) (v := v) l a (fun k hk => h k (by simp [hk]))
  cases hf : f j
  ·simp only [Bool.false_eq_true, if_false]; exact ih a
  ·simp only [if_true]
   rw [act_put_comm a v (vs j) (fun d hd hd' => h j (by simp) d hd' hd)]
   exact ih _
theorem putL_add {ops : Array Oper} {f : Nat → Bool} {vs : Nat → Value} {v : Value} {i : Nat} : ∀ (l : List Nat) (a : Act), l.Nodup → i ∈ l → f i = false →
    (∀ j ∈ l, j ≠ i → ∀ d, (ops[j]?).bind (·.dst) = some d → (ops[i]?).bind (·.dst) ≠ some d) →
    putL ops (fun j => if j = i then true else f j) (fun j => if j = i then v else vs j) l a = (putL ops f vs l a).put ((ops[i]?).bind (·.dst)) v
 | [], _, _, h, _, _ => by cases h
 | j :: l, a, hn, hi, hf, hd => by
  obtain ⟨hjl, hn'⟩ := List.nodup_cons.1 hn
  by_cases hji : j = i
  ·subst hji
   unfold putL
   simp only [if_true, hf, Bool.false_eq_true, if_false]
   rw [putL_congr (f := fun k => if k = j then true else f k) (g := f) (us := vs) l _ (fun k hk => by
    have : k ≠ j := fun e => hjl (e ▸ hk)
    simp [this])]
   exact putL_put l a (fun k hk d hkd => hd k (by simp [hk]) (fun e => hjl (e ▸ hk)) d hkd)
  ·have hil : i ∈ l := by
     rcases List.mem_cons.1 hi with e | h
     ·exact absurd e.symm hji
     ·exact h
   unfold putL
   simp only [hji, if_false]
   exact putL_add l _ hn' hil hf (fun k hk => hd k (by simp [hk]))
theorem putL_defers {ops : Array Oper} {f : Nat → Bool} {vs : Nat → Value} : ∀ (l : List Nat) (a : Act), (putL ops f vs l a).defers = a.defers
 | [], _ => rfl
 | i :: l, a => by
  unfold putL
  rw [putL_defers]
  split
  ·unfold Act.put; split <;> rfl
  ·rfl
theorem put_size (a : Act) (x : Option Tmp) (v : Value) : (a.put x v).tmps.size = a.tmps.size := by
 cases x <;> simp [Act.put]
theorem put_other (a : Act) {x : Option Tmp} {t : Tmp} (v : Value) (h : x ≠ some t) : (a.put x v).tmps.getD t undef = a.tmps.getD t undef := by
 cases x with
 | none => rfl
 | some d =>
  have hne : d ≠ t := fun e => h (by rw [e])
  simp [Act.put, Array.getElem?_setIfInBounds_ne hne]
theorem put_same (a : Act) {t : Tmp} (v : Value) (h : t < a.tmps.size) : (a.put (some t) v).tmps.getD t undef = v := by
 simp [Act.put, Array.getD, h]
theorem putL_other {ops : Array Oper} {f : Nat → Bool} {vs : Nat → Value} {t : Tmp} : ∀ (l : List Nat) (a : Act), (∀ j ∈ l, (ops[j]?).bind (·.dst) = some t → f j = false) →
    (putL ops f vs l a).tmps.getD t undef = a.tmps.getD t undef
 | [], _, _ => rfl
 | j :: l, a, h => by
  unfold putL
  rw [putL_other l _ (fun k hk => h k (by simp [hk]))]
  split
  ·rename_i hf
   refine put_other a _ (fun e => ?_)
   have := h j (by simp) e
   rw [this] at hf; cases hf
  ·rfl
theorem putL_same {ops : Array Oper} {f : Nat → Bool} {vs : Nat → Value} {t : Tmp} {i : Nat} : ∀ (l : List Nat) (a : Act), l.Nodup → i ∈ l → f i = true → (ops[i]?).bind (·.dst) = some t → t < a.tmps.size →
    (∀ j ∈ l, j ≠ i → (ops[j]?).bind (·.dst) ≠ some t) → (putL ops f vs l a).tmps.getD t undef = vs i
 | [], _, _, h, _, _, _, _ => by cases h
 | j :: l, a, hn, hi, hf, ht, hs, hd => by
  obtain ⟨hjl, hn'⟩ := List.nodup_cons.1 hn
  unfold putL
  by_cases hji : j = i
  ·subst hji
   simp only [hf, if_true]
   rw [putL_other l _ (fun k hk e => absurd e (hd k (by simp [hk]) (fun e => hjl (e ▸ hk)))), ht]
   exact put_same a _ hs
  ·have hil : i ∈ l := by
     rcases List.mem_cons.1 hi with e | h
     ·exact absurd e.symm hji
     ·exact h
   refine putL_same l _ hn' hil hf ht ?_ (fun k hk => hd k (by simp [hk]))
   split
   ·rw [put_size]; exact hs
   ·exact hs

section
variable {P : Program} {ops : Array Oper} {Q : Exit → Act → World → Prop}

structure RSt (ops : Array Oper) (a0 : Act) (w0 : World) (G : World → World → Prop) (R : Nat → (Nat → Value) → World → Prop) (listed : Array Bool) (a : Act) (w : World) : Prop where
 size : listed.size = ops.size
 closed : ∀ j oj, ops[j]? = some oj → listed.getD j false = true → ∀ e ∈ oj.after, Region.binds .any e = true → listed.getD e.on false = true
 st : G w0 w ∧ ∃ vs, a = putL ops (fun i => listed.getD i false) vs (List.range ops.size) a0 ∧ ∀ j, listed.getD j false = true → R j vs w

theorem RSt.dep {a0 : Act} {w0 : World} {G : World → World → Prop} {R : Nat → (Nat → Value) → World → Prop} {listed : Array Bool} {a : Act} {w : World} (h : RSt ops a0 w0 G R listed a w) :
    ∀ (f i j : Nat), listed.getD i false = true → depB .any ops f i j = true → listed.getD j false = true
 | 0, _, _, _, hd => by simp [depB] at hd
 | f + 1, i, j, hi, hd => by
  unfold depB at hd
  cases ho : ops[i]? with
  | none => simp [ho] at hd
  | some o =>
   simp only [ho] at hd
   obtain ⟨e, he, hb⟩ := Array.any_eq_true'.1 hd
   simp only [Bool.and_eq_true, Bool.or_eq_true, beq_iff_eq] at hb
   have hon := h.closed i o ho hi e he hb.1
   rcases hb.2 with hj | hj
   ·rw [← hj]; exact hon
   ·exact RSt.dep h f e.on j hon hj

theorem bind_dst {i : Nat} {o : Oper} (ho : ops[i]? = some o) : (ops[i]?).bind (·.dst) = o.dst := by rw [ho]; rfl

theorem wp_region_rg {id : Nat} {a0 : Act} {w : World} (hm : P.follows .mixedOrders = true) (hbk : backB .any ops = true) (hd : distinctB ops a0.tmps.size = true) (G : World → World → Prop) (R : Nat → (Nat → Value) → World → Prop)
    (hG0 : G w.drew w.drew) (hGt : ∀ a b c, G a b → G b c → G a c) (hR : ∀ i vs a b, G w.drew a → G a b → R i vs a → R i vs b)
    (hC : ∀ i vs us a, i < ops.size → (∀ j, j = i ∨ depB .any ops ops.size i j = true → vs j = us j) → R i vs a → R i us a)
    (step : ∀ i o, ops[i]? = some o → ∀ (a : Act) (vs : Nat → Value) (w1 : World), G w.drew w1 → a.defers = a0.defers →
     (∀ j, depB .any ops ops.size i j = true → R j vs w1 ∧ ∀ d, (ops[j]?).bind (·.dst) = some d → a.tmps.getD d undef = vs j) →
     (∀ t, ownB .any ops i t = true → a.tmps.getD t undef = a0.tmps.getD t undef) →
     wpOp P ops Q i (fun a' w' => ∃ v, a' = a.put o.dst v ∧ G w1 w' ∧ ∀ us : Nat → Value, us i = v → (∀ j, j ≠ i → us j = vs j) → R i us w') a w1)
    (fin : ∀ vs w1, G w.drew w1 → (∀ i, i < ops.size → R i vs w1) → Q .normal (putL ops (fun _ => true) vs (List.range ops.size) a0) w1) :
    (Code.region id ops true).wp P Q a0 w := by
 have hdist : ∀ i j d, i < ops.size → j < ops.size → i ≠ j → (ops[i]?).bind (·.dst) = some d → (ops[j]?).bind (·.dst) ≠ some d := by
  intro i j d hi hj hne h1 h2
  have h := List.all_eq_true.1 hd i (List.mem_range.2 hi)
  simp only [Bool.and_eq_true] at h
  have h3 := List.all_eq_true.1 h.2 j (List.mem_range.2 hj)
  simp only [Bool.or_eq_true, beq_iff_eq, bne_iff_ne, ne_eq, Bool.not_eq_true'] at h3
  rcases h3 with (h3 | h3) | h3
  ·exact hne h3
  ·rw [h1] at h3; cases h3
  ·exact h3 (h1.trans h2.symm)
 have hlt : ∀ i d, i < ops.size → (ops[i]?).bind (·.dst) = some d → d < a0.tmps.size := by
  intro i d hi h1
  have h := List.all_eq_true.1 hd i (List.mem_range.2 hi)
  simp only [Bool.and_eq_true, h1, decide_eq_true_eq] at h
  exact h.1
 have hnd : (List.range ops.size).Nodup := List.nodup_range
 have fin' : ∀ (listed : Array Bool) (a : Act) (w1 : World), RSt ops a0 w.drew G R listed a w1 → Region.ready .any ops listed = [] → Q .normal a w1 := by
  intro listed a w1 h hr
  obtain ⟨hG, vs, ha, hRs⟩ := h.st
  have hall : ∀ i, i < ops.size → listed.getD i false = true := by
   intro i
   induction i using Nat.strongRecOn with
   | _ i ih =>
    intro hi
    cases hl : listed.getD i false with
    | true => rfl
    | false =>
     exfalso
     have hk : i ∈ Region.ready .any ops listed := by
      unfold Region.ready
      refine List.mem_filter.2 ⟨List.mem_range.2 hi, ?_⟩
      have hli : i < listed.size := by rw [h.size]; exact hi
      have hl' : listed.getD i true = false := by simpa [Array.getD, hli] using hl
      simp only [hl', Bool.not_false, Bool.true_and, Array.getElem?_eq_getElem hi, Option.map_some, Option.getD_some]
      refine Array.all_eq_true'.2 fun e he => ?_
      cases hbe : Region.binds .any e
      ·simp
      ·have hb := List.all_eq_true.1 hbk i (List.mem_range.2 hi)
       rw [Array.getElem?_eq_getElem hi] at hb
       have hb2 := Array.all_eq_true'.1 hb e he
       simp only [hbe, Bool.not_true, Bool.false_or, decide_eq_true_eq] at hb2
       simp [ih e.on hb2 (by omega)]
     rw [hr] at hk
     cases hk
  have e : a = putL ops (fun _ => true) vs (List.range ops.size) a0 := by
   rw [ha]
   exact putL_congr _ _ (fun i hi => ⟨hall i (List.mem_range.1 hi), fun _ => rfl⟩)
  rw [e]
  exact fin vs w1 hG (fun i hi => hRs i (hall i hi))
 have key : ∀ (fuel : Nat) (listed : Array Bool) (a : Act) (w1 : World), RSt ops a0 w.drew G R listed a w1 → ((List.range ops.size).filter (fun i => !listed.getD i true)).length ≤ fuel → wpAny P .any ops Q fuel listed a w1 := by
  intro fuel
  induction fuel with
  | zero =>
   intro listed a w1 h hf
   have hnil : Region.ready .any ops listed = [] := by
    refine List.eq_nil_iff_forall_not_mem.2 fun i hi => ?_
    obtain ⟨h1, h2, _⟩ := mem_ready' hi
    have : i ∈ (List.range ops.size).filter (fun i => !listed.getD i true) := List.mem_filter.2 ⟨List.mem_range.2 h1, by simp [h2]⟩
    rw [List.eq_nil_of_length_eq_zero (Nat.le_zero.1 hf)] at this
    cases this
   exact ⟨hnil, fin' listed a w1 h hnil⟩
  | succ fuel ih =>
   intro listed a w1 h hf
   refine ⟨fin' listed a w1 h, fun i hi => ?_⟩
   obtain ⟨h1, h2, o, ho, hedges⟩ := mem_ready' hi
   obtain ⟨hG, vs, ha, hRs⟩ := h.st
   have hli : i < listed.size := by rw [h.size]; exact h1
   have h2' : listed.getD i false = false := by simpa [Array.getD, hli] using h2
   have hdep : ∀ j, depB .any ops ops.size i j = true → listed.getD j false = true := by
    intro j hj
    cases hs : ops.size with
    | zero => omega
    | succ n =>
     rw [hs] at hj
     unfold depB at hj
     simp only [ho] at hj
     obtain ⟨e, he, hb⟩ := Array.any_eq_true'.1 hj
     simp only [Bool.and_eq_true, Bool.or_eq_true, beq_iff_eq] at hb
     have hon := hedges e he hb.1
     rcases hb.2 with hj | hj
     ·rw [← hj]; exact hon
     ·exact h.dep n e.on j hon hj
   have hst := step i o ho a vs w1 hG (by rw [ha, putL_defers]) ?_ ?_
   ·refine wpOp_mono ?_ hst
    rintro a' w' ⟨v, rfl, hG1, hRi⟩
    refine ih _ _ _ ⟨by simp [h.size], ?_, hGt _ _ _ hG hG1, fun j => if j = i then v else vs j, ?_, ?_⟩ ?_
    ·intro j oj hoj hl e he hb
     by_cases hji : j = i
     ·subst hji
      obtain rfl : o = oj := Option.some.inj (ho.symm.trans hoj)
      have := hedges e he hb
      by_cases hei : e.on = j
      ·rw [hei, h2'] at this; cases this
      ·simpa [Array.getElem?_setIfInBounds_ne (Ne.symm hei)] using this
     ·have hl' : listed.getD j false = true := by simpa [Array.getElem?_setIfInBounds_ne (Ne.symm hji)] using hl
      have := h.closed j oj hoj hl' e he hb
      by_cases hei : e.on = i
      ·rw [hei]; simp [hli]
      ·simpa [Array.getElem?_setIfInBounds_ne (Ne.symm hei)] using this
    ·rw [ha, ← bind_dst ho]
     rw [← putL_add (List.range ops.size) a0 hnd (List.mem_range.2 h1) h2' (fun j hj hji d hd1 hd2 => hdist i j d h1 (List.mem_range.1 hj) (Ne.symm hji) hd2 hd1)]
     refine putL_congr _ _ (fun j hj => ⟨?_, fun _ => rfl⟩)
     by_cases hji : j = i
     ·subst hji; simp [hli]
     ·simp [hji, Array.getElem?_setIfInBounds_ne (Ne.symm hji)]
    ·intro j hj
     by_cases hji : j = i
     ·subst hji; exact hRi _ (by simp) (fun k hk => by simp [hk])
     ·have hl' : listed.getD j false = true := by simpa [Array.getElem?_setIfInBounds_ne (Ne.symm hji)] using hj
      have hjlt : j < ops.size := by
       by_cases hj' : j < ops.size
       ·exact hj'
       ·have : ¬ j < listed.size := by rw [h.size]; exact hj'
        simp [this] at hl'
      refine hC j vs _ _ hjlt (fun k hk => ?_) (hR j _ _ _ hG hG1 (hRs j hl'))
      have hki : k ≠ i := by
       intro e
       subst e
       rcases hk with rfl | hk
       ·exact hji rfl
       ·have := h.dep _ j k hl' hk
        rw [h2'] at this; cases this
      simp [hki]
    ·have : ((List.range ops.size).filter (fun k => !(listed.setIfInBounds i true).getD k true)).length < ((List.range ops.size).filter (fun k => !listed.getD k true)).length := by
       have e : (List.range ops.size).filter (fun k => !(listed.setIfInBounds i true).getD k true) = ((List.range ops.size).filter (fun k => !listed.getD k true)).filter (fun k => k != i) := by
        rw [List.filter_filter]
        refine List.filter_congr fun k hk => ?_
        by_cases hki : k = i
        ·subst hki; simp [hli]
        ·simp [Array.getElem?_setIfInBounds_ne (Ne.symm hki), hki]
       rw [e]
       have hmem : i ∈ (List.range ops.size).filter (fun k => !listed.getD k true) := List.mem_filter.2 ⟨List.mem_range.2 h1, by simp [h2]⟩
       exact List.length_filter_lt_length_iff_exists.2 ⟨i, hmem, by simp⟩
     omega
   ·intro j hj
    have hlj := hdep j hj
    refine ⟨hRs j hlj, fun d hd => ?_⟩
    have hjlt : j < ops.size := by
     cases hoj : ops[j]? with
     | none => rw [hoj] at hd; cases hd
     | some _ => exact (Array.getElem?_eq_some_iff.1 hoj).1
    rw [ha]
    exact putL_same _ _ hnd (List.mem_range.2 hjlt) hlj hd (hlt j d hjlt hd) (fun k hk hkj hkd => hdist j k d hjlt (List.mem_range.1 hk) (Ne.symm hkj) hd hkd)
   ·intro t ht
    rw [ha]
    refine putL_other _ _ (fun j hj hjd => ?_)
    have := List.all_eq_true.1 ht j hj
    simp only [hjd, beq_self_eq_true, Bool.not_true, Bool.false_or, Bool.or_eq_true, beq_iff_eq] at this
    rcases this with hdj | rfl
    ·cases hl : listed.getD j false with
     | false => rfl
     | true =>
      have := h.dep _ j i hl hdj
      rw [h2'] at this; cases this
    ·exact h2'
 refine wp_region_any hm ?_
 refine key ops.size _ _ _ ⟨by simp, ?_, hG0, fun _ => undef, ?_, ?_⟩ ?_
 ·intro j oj hoj hl
  exfalso
  have hj := (Array.getElem?_eq_some_iff.1 hoj).1
  simp [hj] at hl
 ·rw [putL_congr (g := fun _ => false) (us := fun _ => undef) _ _ (fun i hi => ⟨by have := List.mem_range.1 hi; simp [this], fun _ => rfl⟩)]
  have : ∀ (l : List Nat) (a : Act), a = putL ops (fun _ => false) (fun _ => undef) l a := by
   intro l; induction l with
   | nil => intro a; rfl
   | cons i l ih => intro a; unfold putL; simpa using ih a
  exact this _ _
 ·intro j hj
  exfalso
  by_cases h : j < ops.size
  ·simp [h] at hj
  ·simp [h] at hj
 ·exact Nat.le_trans (List.length_filter_le _ _) (by simp)

theorem wpv_skip {o : Oper} {a : Act} {w w' : World} {v' : Value} {K : Act → World → Prop} (h : (execOp a.eval o).run P w = .ok .skip w') (hv : undef = v') (hK : K (a.put o.dst v') w') : o.wp P a w K Q := by
 subst hv; unfold Oper.wp; rw [h]; exact hK
theorem wpv_call {o : Oper} {a : Act} {w : World} {f : FuncId} {xs : Array Operand} {ts : Array TypeId} {K : Act → World → Prop} (ho : o.op = .call { callee := .value (.func f), args := xs, argTypes := ts })
    (hcall : ∀ args w, (callFunc f args).run P w = .ok (.enter f args) w) {args : Array Value} (hargs : xs.map a.eval = args) (h : Calls P f args w (fun e w' => ∃ v, e = .returned v ∧ K (a.put o.dst v) w')) : o.wp P a w K Q := by
 subst hargs
 have e : (execOp a.eval o).run P w = .ok (.enter f (xs.map a.eval)) w := by
  have : execOp a.eval o = callFunc f (#[] ++ xs.map a.eval ++ #[]) := by
   obtain ⟨dst, op, type, pos, after, guard⟩ := o
   simp only at ho
   subst ho
   rfl
  rw [this, hcall]; simp
 unfold Oper.wp
 rw [e]
 refine Calls.mono h fun e w' ⟨v, he, hk⟩ => ?_
 subst he
 exact hk

theorem yielded_bool {tmps : Array Value} {j : Nat} {d : Tmp} {b : Bool} (hd : (ops[j]?).bind (·.dst) = some d) (hv : tmps.getD d undef = .bool b) : yielded ops tmps j = some b := by
 unfold yielded
 cases ho : ops[j]? with
 | none => rw [ho] at hd; cases hd
 | some o =>
  rw [ho] at hd
  simp only [Option.bind_some] at hd
  by_cases hlt : d < tmps.size
  ·have : tmps[d] = .bool b := by simpa [hlt] using hv
   simp [hd, hlt, this]
  ·simp [hlt] at hv; cases hv
theorem yielded_undef {tmps : Array Value} {j : Nat} {d : Tmp} (hd : (ops[j]?).bind (·.dst) = some d) (hv : tmps.getD d undef = undef) : yielded ops tmps j = none := by
 unfold yielded
 cases ho : ops[j]? with
 | none => rw [ho] at hd; cases hd
 | some o =>
  rw [ho] at hd
  simp only [Option.bind_some] at hd
  by_cases hlt : d < tmps.size
  ·have : tmps[d] = undef := by simpa [hlt] using hv
   simp [hd, hlt, this, undef]
  ·simp [hd, hlt]
theorem wanted_no {o : Oper} {y : Nat → Option Bool} {j : Nat} {b : Bool} (hg : o.guard = some (j, b)) (hy : y j ≠ some b) : Region.wanted o y = false := by
 unfold Region.wanted; simp only [hg]; simpa using hy
theorem wanted_yes {o : Oper} {y : Nat → Option Bool} {j : Nat} {b : Bool} (hg : o.guard = some (j, b)) (hy : y j = some b) : Region.wanted o y = true := by
 unfold Region.wanted; simp only [hg]; simpa using hy

theorem wpOp_wp {i : Nat} {o : Oper} {K : Act → World → Prop} {a : Act} {w : World} (ho : ops[i]? = some o) (hw : Region.wanted o (yielded ops a.tmps) = true) (h : o.wp P a w K Q) : wpOp P ops Q i K a w := by
 unfold wpOp; simp only [ho]; rw [if_pos hw]; exact .inl h
def putV : List (Option Tmp) → (Nat → Value) → Nat → Act → Act
 | [], _, _, a => a
 | d :: ds, vs, k, a => putV ds vs (k + 1) (a.put d (vs k))
theorem putL_putV {vs : Nat → Value} : ∀ (l : List Oper) (k : Nat) (a : Act), (∀ j, j < l.length → l[j]? = ops[k + j]?) → putL ops (fun _ => true) vs (List.range' k l.length) a = putV (l.map (·.dst)) vs k a
 | [], _, _, _ => rfl
 | o :: l, k, a, h => by
  simp only [List.length_cons, List.range'_succ, putL, if_true, List.map_cons, putV]
  have h0 : ops[k]? = some o := by have := h 0 (by simp); simpa using this.symm
  rw [h0, Option.bind_some]
  refine putL_putV l (k + 1) _ (fun j hj => ?_)
  have := h (j + 1) (by simp; omega)
  rw [show k + 1 + j = k + (j + 1) by omega, ← this]; simp
theorem putL_list {vs : Nat → Value} {a0 : Act} : putL ops (fun _ => true) vs (List.range ops.size) a0 = putV (ops.toList.map (·.dst)) vs 0 a0 := by
 rw [List.range_eq_range', ← Array.length_toList, putL_putV ops.toList 0 a0 (fun j _ => by simp)]
end
end Go.Proofs.YtmjpbmcbcppkfaaGreatDoor
