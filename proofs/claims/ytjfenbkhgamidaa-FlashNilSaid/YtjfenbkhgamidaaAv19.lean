/- Abstract values: a region that draws its order: one order is enough: 'draw_of'. Conditions: its premises. -/
import Derived.Test.YtjfenbkhgamidaaAv18
namespace Go.Proofs.Ytjfenbkhgamidaa
open Go.RowKit
set_option linter.unusedVariables false
section
variable {P : Program}
def Ids (ops : Array Oper) (p : Nat) (cs : List CE) (y : Nat × AV × Us) : Prop :=
  ∃ c ∈ cs, c.i = y.1 ∧ ∀ r, lastU y.2.2 r ≠ none → (∃ d, dstOf ops y.1 = some d ∧ r = p + d) ∨ (c.eff = true ∧ ∀ d ∈ c.forb, r ≠ p + d)
theorem ids_of {ops : Array Oper} {p : Nat} {cs : List CE} {s : St} {y : Nat × AV × Us} (h : OkY P ops p cs s y) : Ids ops p cs y := by
  obtain ⟨c, hc, o, h1, h2, h3, _⟩ := h
  refine ⟨c, hc, h1, fun r hr => ?_⟩
  rcases h3 r hr with h | ⟨h4, h5⟩
  · left
    cases hd : o.dst with
    | none => rw [hd] at h; cases h
    | some d => rw [hd] at h; exact ⟨d, by simp [dstOf, h2, hd], (Option.some.inj h).symm⟩
  · obtain ⟨e, he⟩ := Option.ne_none_iff_exists'.1 h5
    exact .inr ⟨h4, (viewOf_get he).2.1⟩
theorem ids_tr {ops : Array Oper} {p : Nat} {cs : List CE} {s0 : St} : ∀ {tr pre : Tr}, TrOk P ops p cs s0 pre tr → ∀ y ∈ tr, Ids ops p cs y
  | y :: tr, pre, h, z, hz => by
    rcases List.mem_cons.1 hz with rfl | hz
    · exact ids_of h.1
    · exact ids_tr h.2 z hz
/-- what stands before and behind an operation in the trace -/
structure Plc (cs : List CE) (i : Nat) (t1 t2 : Tr) : Prop where
  b : ∀ y ∈ t1, ∃ l1 l2 l3, cs.map (·.i) = l1 ++ y.1 :: (l2 ++ i :: l3)
  a : ∀ y ∈ t2, y.1 = i ∨ ∃ l1 l2 l3, cs.map (·.i) = l1 ++ i :: (l2 ++ y.1 :: l3)
theorem agree {ops : Array Oper} {nt p : Nat} {B : List Nat} {cs : List CE} (F : RegF ops nt B cs) {s0 : St} {listed : Array Bool} (hs : listed.size = ops.size) (hc : ∀ j oj, ops[j]? = some oj → listed.getD j false = true → ∀ e ∈ oj.after, Region.binds .any e = true → listed.getD e.on false = true)
    {i : Nat} {o : Oper} (ho : ops[i]? = some o) (hr : ∀ e ∈ o.after, Region.binds .any e = true → listed.getD e.on false = true) (hli : listed.getD i false = false) {c : CE} (hcc : c ∈ cs) (hci : c.i = i) {t1 t2 : Tr} (pl : Plc cs i t1 t2) (hid : ∀ y ∈ t1 ++ t2, Ids ops p cs y) :
    (∀ k ∈ looksOf ops o, getA (appL (dstOf ops) (fun j => listed.getD j false) (t1 ++ t2) s0).t k = getA (appL (dstOf ops) (fun _ => true) t1 s0).t k) ∧
    (∀ (r : Nat) (e : Ent), viewOf p c (appL (dstOf ops) (fun _ => true) t1 s0).H r = some e → (appL (dstOf ops) (fun j => listed.getD j false) (t1 ++ t2) s0).H[r]? = some e) := by
  have hrd := ready_dep F hs hc ho hr
  have hin : ∀ j, depL B j i = true → i < ops.size → listed.getD j false = false := by
    intro j hd hlt
    cases h : listed.getD j false with
    | false => rfl
    | true => have := dep_listed F hs hc j i h hlt hd; rw [hli] at this; cases this
  have hilt := (Array.getElem?_eq_some_iff.1 ho).1
  constructor
  · intro k hk
    refine appL_same_t _ (fun y hy hd => ?_) (fun y hy hd => ?_)
    · rcases F.look i o ho k hk y.1 hd with q | q
      · exact hrd y.1 (dst_lt hd) q
      · obtain ⟨l1, l2, l3, h⟩ := pl.b y hy
        have := (tr_pair F h).2.1
        rw [q] at this; cases this
    rcases pl.a y hy with h | ⟨l1, l2, l3, h⟩
    · rw [h]; exact hli
    · rcases F.look i o ho k hk y.1 hd with q | q
      · have := (tr_pair F h).2.1
        rw [q] at this; cases this
      · exact hin y.1 q hilt
  · intro r e hv
    obtain ⟨hsens, hforb, he⟩ := viewOf_get hv
    rw [← he]
    refine appL_same_H _ (fun y hy ht => ?_) (fun y hy ht => ?_)
    · obtain ⟨cy, hcy, hcyi, hids⟩ := hid y (by simp [hy])
      obtain ⟨l1, l2, l3, hord⟩ := pl.b y hy
      obtain ⟨hne, hnd, _⟩ := tr_pair F hord
      rcases hids r ht with ⟨d, hd, rfl⟩ | ⟨heff, _⟩
      · rcases F.forb c hcc hsens y.1 d hd (by rw [hci]; exact hne) with h | h
        · exact hrd y.1 (dst_lt hd) (by rw [← hci]; exact h)
        · exact absurd rfl (hforb d h)
      · have hylt := F.range cy hcy
        rcases (F.eff cy hcy heff).2 c hcc (by rw [hci, hcyi]; exact Ne.symm hne) hsens with h | h
        · rw [hci, hcyi] at h; exact hrd y.1 (by omega) h
        · rw [hci, hcyi, hnd] at h; cases h
    · rcases pl.a y hy with h | ⟨l1, l2, l3, hord⟩
      · rw [h]; exact hli
      · obtain ⟨hne, hnd, _⟩ := tr_pair F hord
        obtain ⟨cy, hcy, hcyi, hids⟩ := hid y (by simp [hy])
        rcases hids r ht with ⟨d, hd, rfl⟩ | ⟨heff, _⟩
        · rcases F.forb c hcc hsens y.1 d hd (by rw [hci]; exact Ne.symm hne) with h | h
          · rw [hci, hnd] at h; cases h
          · exact absurd rfl (hforb d h)
        · rcases (F.eff cy hcy heff).2 c hcc (by rw [hci, hcyi]; exact hne) hsens with h | h
          · rw [hci, hcyi, hnd] at h; cases h
          · rw [hci, hcyi] at h; exact hin y.1 h hilt
theorem draw_of {tb : TypeId → Option TI} (htb : TbOk P tb) (hm : P.follows .mixedOrders = true) {p : Nat} {id : Nat} {ops : Array Oper} (B : List Nat) (cs : List CE) {s0 : St} {K : St → Prop} (hok : regOk ops s0.t.length B cs = true) (h : opsD tb P p ops cs K s0) : drawK P id ops K s0 := by
  have F := regF hok
  unfold drawK
  intro w0 keep E a w hR
  obtain ⟨dst, hdst⟩ : ∃ dst, dst = dstOf ops := ⟨_, rfl⟩
  -- the trace's numbers are all unlike
  have hnodup : ∀ {l1 l2 : List Nat}, l1 ++ l2 = cs.map (·.i) → ∀ x, x ∈ l1 → x ∉ l2 := by
    intro l1 l2 hl x h1 h2
    obtain ⟨a1, a2, rfl⟩ := List.append_of_mem h1
    obtain ⟨b1, b2, rfl⟩ := List.append_of_mem h2
    have := tr_pair F (l1 := a1) (l2 := a2 ++ b1) (l3 := b2) (a := x) (b := x) (by rw [← hl]; simp)
    exact this.1 rfl
  have fin' : ∀ (listed : Array Bool) (a : Act) (w : World), RInv tb P p ops cs s0 K w0 keep listed a w → Region.ready .any ops listed = [] → (fun e a' w' => e = Exit.normal ∧ ∃ s' E', Rel w0 keep E' s' a' w' ∧ K s') Exit.normal a w := by
    intro listed a w hI hready
    have hall : ∀ i, i < ops.size → listed.getD i false = true := by
      intro i
      induction i using Nat.strongRecOn with
      | _ i ih =>
        intro hi
        cases hl : listed.getD i false with
        | true => rfl
        | false =>
          exfalso
          have hk : i ∈ Region.ready .any ops listed := by
            unfold Region.ready
            refine List.mem_filter.2 ⟨List.mem_range.2 hi, ?_⟩
            have hli : i < listed.size := by rw [hI.size]; exact hi
            have hl' : listed.getD i true = false := by simpa [Array.getD, hli] using hl
            simp only [hl', Bool.not_false, Bool.true_and, Array.getElem?_eq_getElem hi, Option.map_some, Option.getD_some]
            refine Array.all_eq_true'.2 fun e he => ?_
            cases hbe : Region.binds .any e
            · simp
            · have hb := F.back i _ (by simp [hi]) e he hbe
              simp [ih e.on hb (by omega)]
          rw [hready] at hk
          cases hk
    obtain ⟨tr, rest, h1, h2, h3, h4, h5, h6, h7, E, hE⟩ := hI.ex
    have hrest : rest = [] := by
      cases rest with
      | nil => rfl
      | cons c rest =>
        exfalso
        have hc := h7 c.i (hall c.i (F.range c (h2 c (by simp))))
        exact hnodup h1 c.i hc (by simp)
    subst hrest
    have heq : appL (dstOf ops) (fun i => listed.getD i false) tr s0 = appL (dstOf ops) (fun _ => true) tr s0 := by
      refine appL_congr _ fun y hy => ?_
      have : y.1 ∈ cs.map (·.i) := by rw [← h1]; simp; exact ⟨_, _, hy⟩
      obtain ⟨c, hc, hci⟩ := List.mem_map.1 this
      rw [hall y.1 (by rw [← hci]; exact F.range c hc)]
    exact ⟨rfl, _, E, hE, by rw [heq]; exact h6⟩
  have key : ∀ (fuel : Nat) (listed : Array Bool) (a : Act) (w : World), RInv tb P p ops cs s0 K w0 keep listed a w → ((List.range ops.size).filter (fun i => !listed.getD i true)).length ≤ fuel → wpAny P .any ops (fun e a' w' => e = Exit.normal ∧ ∃ s' E', Rel w0 keep E' s' a' w' ∧ K s') fuel listed a w := by
    intro fuel
    induction fuel with
    | zero =>
      intro listed a w hI hf
      have hnil : Region.ready .any ops listed = [] := by
        refine List.eq_nil_iff_forall_not_mem.2 fun i hi => ?_
        obtain ⟨h1, h2, _⟩ := mem_ready' hi
        have : i ∈ (List.range ops.size).filter (fun i => !listed.getD i true) := List.mem_filter.2 ⟨List.mem_range.2 h1, by simp [h2]⟩
        rw [List.eq_nil_of_length_eq_zero (Nat.le_zero.1 hf)] at this
        cases this
      exact ⟨hnil, fin' listed a w hI hnil⟩
    | succ fuel ih =>
      intro listed a w hI hf
      refine ⟨fin' listed a w hI, fun i hi => ?_⟩
      obtain ⟨hilt, h2, o, ho, hedges⟩ := mem_ready' hi
      have hli : i < listed.size := by rw [hI.size]; exact hilt
      have hl0 : listed.getD i false = false := by simpa [Array.getD, hli] using h2
      have hget : ∀ j, (listed.setIfInBounds i true).getD j false = (listed.getD j false || j == i) := by
        intro j
        by_cases hj : j = i
        · subst hj; simp [hli]
        · simp [Array.getElem?_setIfInBounds_ne (Ne.symm hj), hj]
      have hfuel : ((List.range ops.size).filter (fun k => !(listed.setIfInBounds i true).getD k true)).length ≤ fuel := by
        have : ((List.range ops.size).filter (fun k => !(listed.setIfInBounds i true).getD k true)).length < ((List.range ops.size).filter (fun k => !listed.getD k true)).length := by
          have e : (List.range ops.size).filter (fun k => !(listed.setIfInBounds i true).getD k true) = ((List.range ops.size).filter (fun k => !listed.getD k true)).filter (fun k => k != i) := by
            rw [List.filter_filter]
            refine List.filter_congr fun k hk => ?_
            by_cases hki : k = i
            · subst hki; simp [hli]
            · simp [Array.getElem?_setIfInBounds_ne (Ne.symm hki), hki]
          rw [e]
          have hmem : i ∈ (List.range ops.size).filter (fun k => !listed.getD k true) := List.mem_filter.2 ⟨List.mem_range.2 hilt, by simp [h2]⟩
          exact List.length_filter_lt_length_iff_exists.2 ⟨i, hmem, by simp⟩
        omega
      have hclosed' : ∀ j oj, ops[j]? = some oj → (listed.setIfInBounds i true).getD j false = true → ∀ e ∈ oj.after, Region.binds .any e = true → (listed.setIfInBounds i true).getD e.on false = true := by
        intro j oj hoj hl e he hb
        rw [hget] at hl ⊢
        simp only [Bool.or_eq_true, beq_iff_eq] at hl ⊢
        rcases hl with hl | rfl
        · exact .inl (hI.closed j oj hoj hl e he hb)
        · obtain rfl : o = oj := Option.some.inj (ho.symm.trans hoj)
          exact .inl (hedges e he hb)
      obtain ⟨tr, rest, h1, hin, h3, h4, h5, h6, h7, E, hE⟩ := hI.ex
      have hids := ids_tr h4
      have hdo : dstOf ops i = o.dst := by simp [dstOf, ho]
      -- how the step ends
      have done : ∀ {post : AV → Us → Prop}, (∀ v us (E' : Env) (w' : World) (a' : Act), post v us → Rel w0 keep E' ⟨setD (appL (dstOf ops) (fun j => listed.getD j false) tr s0).t o.dst v, updH (appL (dstOf ops) (fun j => listed.getD j false) tr s0).H us⟩ a' w' → RInv tb P p ops cs s0 K w0 keep (listed.setIfInBounds i true) a' w') →
          ((Region.wanted o (yielded ops a.tmps) = true ∧ o.wp P a w (fun a' w' => ∃ v us E', post v us ∧ Rel w0 keep E' ⟨setD (appL (dstOf ops) (fun j => listed.getD j false) tr s0).t o.dst v, updH (appL (dstOf ops) (fun j => listed.getD j false) tr s0).H us⟩ a' w') (fun e a' w' => e = Exit.normal ∧ ∃ s' E', Rel w0 keep E' s' a' w' ∧ K s')) ∨
            (Region.wanted o (yielded ops a.tmps) = false ∧ ∃ v us, post v us ∧ Rel w0 keep E ⟨setD (appL (dstOf ops) (fun j => listed.getD j false) tr s0).t o.dst v, updH (appL (dstOf ops) (fun j => listed.getD j false) tr s0).H us⟩ (a.put o.dst undef) w)) →
          wpOp P ops (fun e a' w' => e = Exit.normal ∧ ∃ s' E', Rel w0 keep E' s' a' w' ∧ K s') i (wpAny P .any ops (fun e a' w' => e = Exit.normal ∧ ∃ s' E', Rel w0 keep E' s' a' w' ∧ K s') fuel (listed.setIfInBounds i true)) a w := by
        intro post hnext hx
        unfold wpOp
        simp only [ho]
        rcases hx with ⟨hw, hwp⟩ | ⟨hw, v, us, hp, hR'⟩
        · rw [if_pos hw]
          exact .inl (Oper.wp_mono (fun a' w' ⟨v, us, E', hp, hR'⟩ => ih _ _ _ (hnext v us E' w' a' hp hR') hfuel) hwp)
        · rw [if_neg (by rw [hw]; simp)]
          exact ih _ _ _ (hnext v us E w _ hp hR') hfuel
      obtain ⟨cI, hcI, hcIi⟩ := F.cover i hilt
      by_cases hmem : i ∈ tr.map (·.1)
      · obtain ⟨y, hy, hyi⟩ := List.mem_map.1 hmem
        obtain ⟨t1, t2, htr⟩ := List.append_of_mem hy
        have hbefore : ∀ z ∈ t1, ∃ l1 l2 l3, cs.map (·.i) = l1 ++ z.1 :: (l2 ++ i :: l3) := by
          intro z hz
          obtain ⟨a1, a2, rfl⟩ := List.append_of_mem hz
          exact ⟨a1.map (·.1), a2.map (·.1), t2.map (·.1) ++ rest.map (·.i), by rw [← h1, htr]; simp [hyi]⟩
        have hbehind : ∀ z ∈ t2, ∃ l1 l2 l3, cs.map (·.i) = l1 ++ i :: (l2 ++ z.1 :: l3) := by
          intro z hz
          obtain ⟨b1, b2, rfl⟩ := List.append_of_mem hz
          exact ⟨t1.map (·.1), b1.map (·.1), b2.map (·.1) ++ rest.map (·.i), by rw [← h1, htr]; simp [hyi]⟩
        have hncall : callB ops i = false := by
          cases hc : callB ops i with
          | false => rfl
          | true =>
            have := h5 y hy (by rw [hyi]; exact hc)
            rw [hyi, hl0] at this; cases this
        rw [htr] at h4 hids hE done
        obtain ⟨c, hcc, o', hci, ho', hidy, hexy⟩ := TrOk_at h4
        rw [hyi] at ho' hci
        obtain rfl : o = o' := Option.some.inj (ho.symm.trans ho')
        obtain ⟨us0, hok0, hfilt, hex⟩ := hexy (by simpa [callB, ho] using hncall)
        have pl : Plc cs i t1 (y :: t2) := ⟨hbefore, fun z hz => by
          rcases List.mem_cons.1 hz with rfl | hz
          · exact .inl hyi
          · exact .inr (hbehind z hz)⟩
        have ag := agree F (s0 := s0) hI.size hI.closed ho hedges hl0 hcc hci pl hids
        refine done (post := fun v us => v = y.2.1 ∧ us = us0) ?_ (hex w0 keep E _ a w _ hE ag.1 ag.2)
        rintro v us E' w' a' ⟨rfl, rfl⟩ hR'
        have hgo : (⟨setD (appL (dstOf ops) (fun j => listed.getD j false) (t1 ++ y :: t2) s0).t o.dst y.2.1, updH (appL (dstOf ops) (fun j => listed.getD j false) (t1 ++ y :: t2) s0).H us⟩ : St) = appL (dstOf ops) (fun j => (listed.setIfInBounds i true).getD j false) (t1 ++ y :: t2) s0 := by
          rw [filt_eq hok0 (fun r e _ h => ag.2 r e h), hfilt, ← hdo]
          have ey : y = (i, y.2.1, y.2.2) := by rw [← hyi]
          have hadd := appL_add (dstOf ops) (L := fun j => listed.getD j false) (t1 := t1) (t2 := t2) (i := i) (v := y.2.1) (us := y.2.2) (s := s0) hl0 (fun z hz => ?_) (fun z hz => ?_) (fun z hz k hk1 hk2 => ?_) (fun z hz r hr1 hr2 => ?_)
          · rw [← ey] at hadd
            have hfun : (fun j => (listed.setIfInBounds i true).getD j false) = fun j => listed.getD j false || j == i := funext hget
            rw [hfun, hadd]; rfl
          · obtain ⟨l1, l2, l3, hord⟩ := hbefore z hz
            exact (tr_pair F hord).1
          · obtain ⟨l1, l2, l3, hord⟩ := hbehind z hz
            exact Ne.symm (tr_pair F hord).1
          · obtain ⟨l1, l2, l3, hord⟩ := hbehind z hz
            exact absurd (F.dinj _ _ _ hk1 hk2) (tr_pair F hord).1
          · obtain ⟨l1, l2, l3, hord⟩ := hbehind z hz
            obtain ⟨hne, hnd, _⟩ := tr_pair F hord
            obtain ⟨cz, hcz, hczi, hidz⟩ := hids z (by simp [hz])
            have hzlt := F.range cz hcz
            rw [hczi] at hzlt
            have hfalse : depL B z.1 i = true → listed.getD z.1 false = false := by
              intro hd
              cases hlz : listed.getD z.1 false with
              | false => rfl
              | true => have := dep_listed F hI.size hI.closed z.1 i hlz hilt hd; rw [hl0] at this; cases this
            obtain ⟨ci, hci', hcii, hidi⟩ := hids y (by simp)
            rw [hyi] at hcii hidi
            rcases hidi r hr1 with ⟨d, hd, rfl⟩ | ⟨heff, hfo⟩
            · rcases hidz _ hr2 with ⟨d', hd', he⟩ | ⟨heff', hfo'⟩
              · have : d = d' := Nat.add_left_cancel he
                subst this
                exact absurd (F.dinj _ _ _ hd hd') hne
              · rcases F.forb cz hcz (F.eff cz hcz heff').1 i d hd (by rw [hczi]; exact hne) with h | h
                · rw [hczi] at h; exact hfalse h
                · exact absurd rfl (hfo' d h)
            · have hsens := (F.eff ci hci' heff).1
              rcases hidz _ hr2 with ⟨d', hd', he⟩ | ⟨heff', hfo'⟩
              · rcases F.forb ci hci' hsens z.1 d' hd' (by rw [hcii]; exact Ne.symm hne) with h | h
                · rw [hcii, hnd] at h; cases h
                · exact absurd he (hfo d' h)
              · rcases (F.eff ci hci' heff).2 cz hcz (by rw [hcii, hczi]; exact Ne.symm hne) (F.eff cz hcz heff').1 with h | h
                · rw [hcii, hczi] at h; exact hfalse h
                · rw [hcii, hczi, hnd] at h; cases h
        rw [hgo] at hR'
        refine ⟨by simp [hI.size], hclosed', t1 ++ y :: t2, rest, by rw [← htr]; exact h1, hin, h3, h4, fun z hz hc => ?_, by rw [← htr]; exact h6, fun j hj => ?_, E', hR'⟩
        · rw [hget, h5 z (by rw [htr]; exact hz) hc]; rfl
        · rw [hget] at hj
          simp only [Bool.or_eq_true, beq_iff_eq] at hj
          rw [← htr]
          rcases hj with hj | rfl
          · exact h7 j hj
          · exact hmem
      · have hirest : i ∈ rest.map (·.i) := by
          have : i ∈ cs.map (·.i) := List.mem_map.2 ⟨cI, hcI, hcIi⟩
          rw [← h1] at this
          exact (List.mem_append.1 this).resolve_left hmem
        cases rest with
        | nil => simp at hirest
        | cons c rest =>
          have hccall := h3 c rfl
          have hci : c.i = i := by
            simp only [List.map_cons, List.mem_cons] at hirest
            rcases hirest with h | h
            · exact h.symm
            · exfalso
              obtain ⟨l2, l3, hl⟩ := List.append_of_mem h
              have hord : cs.map (·.i) = tr.map (·.1) ++ c.i :: (l2 ++ i :: l3) := by rw [← h1]; simp [hl]
              have hd := (tr_pair F hord).2.2 hccall
              have hlis := ready_dep F hI.size hI.closed ho hedges c.i (F.range c (hin c (by simp))) hd
              exact hnodup h1 c.i (h7 _ hlis) (by simp)
          have hcc := hin c (by simp)
          unfold opsD at h6
          rw [getN_eq, hci] at h6
          have hol : ops.toList[i]? = some o := by simpa using ho
          rw [hol] at h6
          simp only at h6
          obtain ⟨post, hpost, hex, _⟩ := opD_data htb h6
          have pl : Plc cs i tr [] := ⟨fun z hz => by
            obtain ⟨a1, a2, rfl⟩ := List.append_of_mem hz
            exact ⟨a1.map (·.1), a2.map (·.1), rest.map (·.i), by rw [← h1]; simp [hci]⟩, fun z hz => by simp at hz⟩
          have ag := agree F (s0 := s0) hI.size hI.closed ho hedges hl0 hcc hci pl (by simpa using hids)
          rw [List.append_nil] at ag
          refine done (post := post) ?_ (hex w0 keep E _ a w _ hE ag.1 ag.2)
          intro v us E' w' a' hp hR'
          obtain ⟨hok0, hK⟩ := hpost v us hp
          have hiscall : isCall o = true := by rw [hci] at hccall; simpa [callB, ho] using hccall
          have hcan : (⟨setD (appL (dstOf ops) (fun _ => true) tr s0).t o.dst v, updH (appL (dstOf ops) (fun _ => true) tr s0).H us⟩ : St) = appL (dstOf ops) (fun _ => true) (tr ++ [(i, v, filtU (ownId p o.dst) c.eff us)]) s0 := by
            rw [appL_append]
            simp only [appL, if_true, app1, hdo]
            rw [← filt_eq hok0 (fun r e _ h => (viewOf_get h).2.2)]
          rw [hcan] at hK
          have hT' : TrOk P ops p cs s0 [] (tr ++ [(i, v, filtU (ownId p o.dst) c.eff us)]) := by
            refine TrOk_append.2 ⟨h4, ?_, trivial⟩
            exact ⟨c, hcc, o, hci, ho, fun r hr => by simpa using filt_last hok0 r hr, fun hn => by rw [hiscall] at hn; cases hn⟩
          obtain ⟨t2, rest2, g1, g2, g3, g4, g5, g6⟩ := saturate (P := P) htb rest _ (fun c' h' => hin c' (by simp [h'])) hT' hK
          have hord : ((tr ++ [(i, v, filtU (ownId p o.dst) c.eff us)]) ++ t2).map (·.1) ++ rest2.map (·.i) = cs.map (·.i) := by
            rw [← h1]; simp only [List.map_append, List.map_cons, List.map_nil, List.append_assoc, g1, hci]; simp
          have hnew : ∀ z ∈ t2, (listed.setIfInBounds i true).getD z.1 false = false := by
            intro z hz
            cases hlz : (listed.setIfInBounds i true).getD z.1 false with
            | false => rfl
            | true =>
              exfalso
              rw [hget] at hlz
              simp only [Bool.or_eq_true, beq_iff_eq] at hlz
              have hzin : z.1 ∈ (tr ++ [(i, v, filtU (ownId p o.dst) c.eff us)]).map (·.1) := by
                rcases hlz with h | h
                · simp only [List.map_append, List.mem_append]; exact .inl (h7 _ h)
                · simp [h]
              have hord2 : (tr ++ [(i, v, filtU (ownId p o.dst) c.eff us)]).map (·.1) ++ (t2.map (·.1) ++ rest2.map (·.i)) = cs.map (·.i) := by
                rw [← hord]; simp
              exact hnodup hord2 z.1 hzin (by simp only [List.mem_append]; exact .inl (List.mem_map.2 ⟨z, hz, rfl⟩))
          have hgo : (⟨setD (appL (dstOf ops) (fun j => listed.getD j false) tr s0).t o.dst v, updH (appL (dstOf ops) (fun j => listed.getD j false) tr s0).H us⟩ : St) = appL (dstOf ops) (fun j => (listed.setIfInBounds i true).getD j false) ((tr ++ [(i, v, filtU (ownId p o.dst) c.eff us)]) ++ t2) s0 := by
            rw [appL_append (a := tr ++ [(i, v, filtU (ownId p o.dst) c.eff us)]) (b := t2), appL_idle (a := t2) _ hnew, appL_append (a := tr) (b := [(i, v, filtU (ownId p o.dst) c.eff us)])]
            have hii : (listed.setIfInBounds i true).getD i false = true := by rw [hget]; simp
            simp only [appL, hii, if_true, app1, hdo]
            rw [filt_eq hok0 (fun r e _ h => ag.2 r e h)]
            have hcg : appL (dstOf ops) (fun j => (listed.setIfInBounds i true).getD j false) tr s0 = appL (dstOf ops) (fun j => listed.getD j false) tr s0 := by
              refine appL_congr _ fun z hz => ?_
              have hzi : z.1 ≠ i := fun e => hmem (by rw [← e]; exact List.mem_map.2 ⟨z, hz, rfl⟩)
              rw [hget]; simp [hzi]
            rw [hcg]
          rw [hgo] at hR'
          refine ⟨by simp [hI.size], hclosed', _, rest2, hord, g2, g3, g4, fun z hz hc => ?_, g6, fun j hj => ?_, E', hR'⟩
          · rcases List.mem_append.1 hz with hz | hz
            · rcases List.mem_append.1 hz with hz | hz
              · rw [hget, h5 z hz hc]; rfl
              · simp only [List.mem_singleton] at hz
                subst hz
                rw [hget]; simp
            · rw [g5 z hz] at hc; cases hc
          · rw [hget] at hj
            simp only [Bool.or_eq_true, beq_iff_eq] at hj
            simp only [List.map_append, List.mem_append]
            rcases hj with hj | rfl
            · exact .inl (.inl (h7 j hj))
            · exact .inl (.inr (by simp))
  refine wp_region_any hm (key ops.size _ _ _ ?_ ?_)
  · obtain ⟨t2, rest2, g1, g2, g3, g4, g5, g6⟩ := saturate (P := P) htb (s0 := s0) (K := K) cs [] (fun _ h => h) trivial h
    refine ⟨by simp, ?_, t2, rest2, g1, g2, g3, by simpa using g4, ?_, by simpa using g6, ?_, E, ?_⟩
    · intro j oj hoj hl
      exfalso
      have hj := (Array.getElem?_eq_some_iff.1 hoj).1
      simp [hj] at hl
    · intro y hy hcl
      rw [g5 y hy] at hcl; cases hcl
    · intro j hj
      exfalso
      by_cases h : j < ops.size <;> simp [h] at hj
    · rw [appL_idle _ (fun y hy => by by_cases h : y.1 < ops.size <;> simp [h])]
      exact hR.drew
  · exact Nat.le_trans (List.length_filter_le _ _) (by simp)
end
end Go.Proofs.Ytjfenbkhgamidaa
