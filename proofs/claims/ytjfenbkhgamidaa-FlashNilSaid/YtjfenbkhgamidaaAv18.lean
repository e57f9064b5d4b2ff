/- Abstract values: a region that draws its order: one order is enough. Conditions: the premises of 'draw_of'. -/
import Derived.Test.YtjfenbkhgamidaaAv17
namespace Go.Proofs.Ytjfenbkhgamidaa
open Go.RowKit
set_option linter.unusedVariables false
section
variable {P : Program}
/-- what 'regOk' says -/
structure RegF (ops : Array Oper) (nt : Nat) (B : List Nat) (cs : List CE) : Prop where
  cover : ∀ i, i < ops.size → ∃ c ∈ cs, c.i = i
  range : ∀ c ∈ cs, c.i < ops.size
  pair : ∀ l1 a l2 b l3, cs = l1 ++ a :: (l2 ++ b :: l3) → a.i ≠ b.i ∧ depL B a.i b.i = false ∧ (callB ops a.i = true → depL B b.i a.i = true)
  dep : ∀ i j o, ops[i]? = some o → j < ops.size → depL B i j = true → ∃ e ∈ o.after, Region.binds .any e = true ∧ (e.on = j ∨ depL B e.on j = true)
  back : ∀ i o, ops[i]? = some o → ∀ e ∈ o.after, Region.binds .any e = true → e.on < i
  dlt : ∀ i d, dstOf ops i = some d → d < nt
  dinj : ∀ i j d, dstOf ops i = some d → dstOf ops j = some d → i = j
  look : ∀ i o, ops[i]? = some o → ∀ k ∈ looksOf ops o, ∀ j, dstOf ops j = some k → depL B i j = true ∨ depL B j i = true
  eff : ∀ a ∈ cs, a.eff = true → a.sens = true ∧ ∀ b ∈ cs, b.i ≠ a.i → b.sens = true → depL B b.i a.i = true ∨ depL B a.i b.i = true
  forb : ∀ a ∈ cs, a.sens = true → ∀ j d, dstOf ops j = some d → j ≠ a.i → depL B a.i j = true ∨ d ∈ a.forb
theorem dst_lt {ops : Array Oper} {j : Nat} {d : Tmp} (h : dstOf ops j = some d) : j < ops.size := by
  unfold dstOf at h
  cases ho : ops[j]? with
  | none => rw [ho] at h; cases h
  | some o => exact (Array.getElem?_eq_some_iff.1 ho).1
theorem pairB_spec {R : CE → CE → Bool} : ∀ {cs : List CE}, pairB R cs = true → ∀ l1 a l2 b l3, cs = l1 ++ a :: (l2 ++ b :: l3) → R a b = true
  | [], _, l1, a, l2, b, l3, h => by simp at h
  | c :: cs, hp, l1, a, l2, b, l3, h => by
    simp only [pairB, Bool.and_eq_true] at hp
    cases l1 with
    | nil =>
      simp only [List.nil_append, List.cons.injEq] at h
      obtain ⟨rfl, rfl⟩ := h
      exact List.all_eq_true.1 hp.1 b (by simp)
    | cons x l1 =>
      simp only [List.cons_append, List.cons.injEq] at h
      exact pairB_spec hp.2 l1 a l2 b l3 h.2
theorem regF {ops : Array Oper} {nt : Nat} {B : List Nat} {cs : List CE} (h : regOk ops nt B cs = true) : RegF ops nt B cs := by
  unfold regOk at h
  simp only [Bool.and_eq_true] at h
  obtain ⟨⟨⟨⟨⟨⟨⟨⟨h1, h2⟩, h3⟩, h4⟩, h5⟩, h6⟩, h7⟩, h8⟩, h9⟩ := h
  refine ⟨fun i hi => ?_, fun c hc => ?_, fun l1 a l2 b l3 he => ?_, fun i j o ho hj hd => ?_, fun i o ho e he hb => ?_, fun i d hd => ?_, fun i j d hi hj => ?_, fun i o ho k hk j hj => ?_, fun a ha he => ?_, fun a ha hs j d hj hne => ?_⟩
  · have := List.all_eq_true.1 h1 i (List.mem_range.2 hi)
    obtain ⟨c, hc, he⟩ := List.any_eq_true.1 this
    exact ⟨c, hc, by simpa using he⟩
  · simpa using List.all_eq_true.1 h2 c hc
  · have := pairB_spec h3 l1 a l2 b l3 he
    simp only [Bool.and_eq_true, bne_iff_ne, ne_eq, Bool.not_eq_true', Bool.or_eq_true] at this
    refine ⟨this.1.1, this.1.2, fun hc => ?_⟩
    rcases this.2 with h | h
    · rw [hc] at h; cases h
    · exact h
  · have hi := (Array.getElem?_eq_some_iff.1 ho).1
    have := List.all_eq_true.1 (List.all_eq_true.1 h4 i (List.mem_range.2 hi)) j (List.mem_range.2 hj)
    simp only [ho, hd, Bool.not_true, Bool.false_or] at this
    obtain ⟨e, he, hb⟩ := Array.any_eq_true'.1 this
    simp only [Bool.and_eq_true, Bool.or_eq_true, beq_iff_eq] at hb
    exact ⟨e, he, hb.1, hb.2⟩
  · have hi := (Array.getElem?_eq_some_iff.1 ho).1
    have := List.all_eq_true.1 h5 i (List.mem_range.2 hi)
    rw [ho] at this
    have h2 := Array.all_eq_true'.1 this e he
    simpa [hb] using h2
  · have := List.all_eq_true.1 h6 i (List.mem_range.2 (dst_lt hd))
    simp only [Bool.and_eq_true] at this
    unfold dstOf at hd
    rw [hd] at this
    simpa using this.1
  · have := List.all_eq_true.1 h6 i (List.mem_range.2 (dst_lt hi))
    simp only [Bool.and_eq_true] at this
    have h2 := List.all_eq_true.1 this.2 j (List.mem_range.2 (dst_lt hj))
    unfold dstOf at hi hj
    rw [hi, hj] at h2
    simpa using h2
  · have hi := (Array.getElem?_eq_some_iff.1 ho).1
    have := List.all_eq_true.1 h7 i (List.mem_range.2 hi)
    simp only [ho] at this
    have h2 := List.all_eq_true.1 (List.all_eq_true.1 this k hk) j (List.mem_range.2 (dst_lt hj))
    simp only [hj, bne_self_eq_false, Bool.false_or] at h2
    exact (Bool.or_eq_true _ _).mp h2
  · have := List.all_eq_true.1 h8 a ha
    simp only [he, Bool.not_true, Bool.false_or, Bool.and_eq_true] at this
    refine ⟨this.1, fun b hb hne hs => ?_⟩
    have h2 := List.all_eq_true.1 this.2 b hb
    simp only [hs, Bool.not_true, Bool.or_false, Bool.or_eq_true, beq_iff_eq] at h2
    rcases h2 with (h2 | h2) | h2
    · exact absurd h2 hne
    · exact .inl h2
    · exact .inr h2
  · have := List.all_eq_true.1 h9 a ha
    simp only [hs, Bool.not_true, Bool.false_or] at this
    have h2 := List.all_eq_true.1 this j (List.mem_range.2 (dst_lt hj))
    simp only [hj, Bool.or_eq_true, beq_iff_eq] at h2
    rcases h2 with (h2 | h2) | h2
    · exact absurd h2 hne
    · exact .inl h2
    · exact .inr (by simpa using h2)
/-- the midst of the region -/
structure RInv (tb : TypeId → Option TI) (P : Program) (p : Nat) (ops : Array Oper) (cs : List CE) (s0 : St) (K : St → Prop) (w0 : World) (keep : Bs) (listed : Array Bool) (a : Act) (w : World) : Prop where
  size : listed.size = ops.size
  closed : ∀ j oj, ops[j]? = some oj → listed.getD j false = true → ∀ e ∈ oj.after, Region.binds .any e = true → listed.getD e.on false = true
  ex : ∃ (tr : Tr) (rest : List CE), tr.map (·.1) ++ rest.map (·.i) = cs.map (·.i) ∧ (∀ c ∈ rest, c ∈ cs) ∧ (∀ c, rest.head? = some c → callB ops c.i = true) ∧ TrOk P ops p cs s0 [] tr ∧
    (∀ y ∈ tr, callB ops y.1 = true → listed.getD y.1 false = true) ∧ opsD tb P p ops rest K (appL (dstOf ops) (fun _ => true) tr s0) ∧ (∀ i, listed.getD i false = true → i ∈ tr.map (·.1)) ∧
    ∃ E, Rel w0 keep E (appL (dstOf ops) (fun i => listed.getD i false) tr s0) a w
theorem dep_listed {ops : Array Oper} {nt : Nat} {B : List Nat} {cs : List CE} (F : RegF ops nt B cs) {listed : Array Bool} (hs : listed.size = ops.size) (hc : ∀ j oj, ops[j]? = some oj → listed.getD j false = true → ∀ e ∈ oj.after, Region.binds .any e = true → listed.getD e.on false = true) :
    ∀ i j, listed.getD i false = true → j < ops.size → depL B i j = true → listed.getD j false = true := by
  intro i
  induction i using Nat.strongRecOn with
  | _ i ih =>
    intro j hi hj hd
    have hlt : i < ops.size := by
      by_cases h : i < listed.size
      · omega
      · simp [h] at hi
    obtain ⟨e, he, hb, hor⟩ := F.dep i j ops[i] (by simp [hlt]) hj hd
    have hon := hc i _ (by simp [hlt]) hi e he hb
    rcases hor with rfl | hor
    · exact hon
    · exact ih e.on (F.back i _ (by simp [hlt]) e he hb) j hon hj hor
theorem ready_dep {ops : Array Oper} {nt : Nat} {B : List Nat} {cs : List CE} (F : RegF ops nt B cs) {listed : Array Bool} (hs : listed.size = ops.size) (hc : ∀ j oj, ops[j]? = some oj → listed.getD j false = true → ∀ e ∈ oj.after, Region.binds .any e = true → listed.getD e.on false = true)
    {i : Nat} {o : Oper} (ho : ops[i]? = some o) (hr : ∀ e ∈ o.after, Region.binds .any e = true → listed.getD e.on false = true) : ∀ j, j < ops.size → depL B i j = true → listed.getD j false = true := by
  intro j hj hd
  obtain ⟨e, he, hb, hor⟩ := F.dep i j o ho hj hd
  rcases hor with rfl | hor
  · exact hr e he hb
  · exact dep_listed F hs hc e.on j (hr e he hb) hj hor
/-- two operations in the order of the trace -/
theorem tr_pair {ops : Array Oper} {nt : Nat} {B : List Nat} {cs : List CE} (F : RegF ops nt B cs) {l1 l2 l3 : List Nat} {a b : Nat} (h : cs.map (·.i) = l1 ++ a :: (l2 ++ b :: l3)) : a ≠ b ∧ depL B a b = false ∧ (callB ops a = true → depL B b a = true) := by
  obtain ⟨c1, c2, e1, e2, e3⟩ := List.map_eq_append_iff.1 h
  obtain ⟨ca, c3, e4, e5, e6⟩ := List.map_eq_cons_iff.1 e3
  obtain ⟨c4, c5, e7, e8, e9⟩ := List.map_eq_append_iff.1 e6
  obtain ⟨cb, c6, e10, e11, e12⟩ := List.map_eq_cons_iff.1 e9
  have := F.pair c1 ca c4 cb c6 (by rw [e1, e4, e7, e10])
  rwa [e5, e11] at this
end
end Go.Proofs.Ytjfenbkhgamidaa
