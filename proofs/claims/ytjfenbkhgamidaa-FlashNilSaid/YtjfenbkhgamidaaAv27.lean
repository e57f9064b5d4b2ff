/- From a statement's arguments to abstract values, and from what is known of a function to the statement's answer. Conditions: none. -/
import Derived.Test.YtjfenbkhgamidaaAv26
import Derived.Test.YtjfenbkhgamidaaOp
import Derived.Deep.Slices
namespace Go.Proofs.Ytjfenbkhgamidaa
open Go.RowKit Go.ChangeShapes Go.WideShapes Go.ChangeAt
set_option linter.unusedVariables false
section
variable {P : Program}
theorem join_val {f : FuncId} {args : List AV} {u : Value} (S : Spec P f args [] (pms (.val u) [] [])) {W : World} {cargs : List Value} (h : reps (env0 W) W args cargs) :
    Calls P f cargs.toArray W fun e W' => e = .returned u ∧ Below W.heap.size W W' := by
  have hr : HR (env0 W) W [] := ⟨by simp, by simp, by simp, by simp, fun z b h => h.2, by simp, fun r _ => ⟨rfl, fun h => h⟩⟩
  refine Calls.mono (S W (env0 W) cargs hr h) fun e w' ⟨v, x, H1, E1, he, ⟨tl, hx, _, _⟩, hv, _, _, _, _, _, hfr⟩ => ?_
  subst hx
  rw [rep_val hv] at he
  exact ⟨he, hfr.os, hfr.tape, hfr.output, hfr.size, fun k hk => hfr.block k hk (fun r e h => by simp at h)⟩
theorem bs_env0 {w : World} {v : Value} {l : List UInt8} (h : BS w v l) : rep (env0 w) w (.bs 0 l) v := by
  obtain ⟨a, n, c, rfl, hS⟩ := h
  rw [rep]
  refine ⟨a, n, c, rfl, hS.len1.symm, hS.le, hS.max, hS.nil, fun i x hx => ?_⟩
  have hn : 0 < n := by
    have := (List.getElem?_eq_some_iff.1 hx).1
    have := hS.len1; omega
  obtain ⟨b, o, rfl, hc⟩ := hS.addr hn (by decide)
  have h1 := hc i (bv x) (by rw [bvs, List.getElem?_map, hx]; rfl)
  refine ⟨b, o, rfl, ⟨rfl, ?_⟩, h1⟩
  unfold World.cell? at h1
  simp only at h1
  cases hb : w.heap[b]? with
  | none => simp [hb] at h1
  | some _ => exact (Array.getElem?_eq_some_iff.1 hb).1
/-- what a reading of cells of a type tells of them -/
def OC (P : Program) (W : World) (H : Type) (enc : TypeId × Value → H) (T : TypeId) {α : Type} (ok : α → Prop) (f : α → List AV) : Prop :=
  ∀ (fuel : Nat) (cs : List Value) (x : DataW H × List MemPlace), DataW.trod enc P W 0 (fun _ => true) true fuel T cs = some x → ∃ a : α, ok a ∧ reps (env0 W) W (f a) cs
variable {W : World} {H : Type} {enc : TypeId × Value → H}
theorem oc_int {T : TypeId} {k : IntKind} (hT : P.underlying T = some (.int k)) : OC P W H enc T (fun n : Int => (Lit.int k n).wf = true) (fun n => [.val (.int k n)]) := by
  intro fuel cs x h
  obtain ⟨a, e0, _, wa⟩ := DataW.trod_int hT h
  refine ⟨a, wa, ?_⟩
  rw [e0]
  simp only [reps, rep]
  exact ⟨_, _, rfl, rfl, rfl⟩
theorem oc_bytes {T E : TypeId} (hT : P.underlying T = some (.slice E)) (hE : P.underlying E = some (.int .u8)) (hc : P.cellsOf E = 1) : OC P W H enc T (fun l : List UInt8 => l.length ≤ maxLen) (fun l => [.bs 0 l]) := by
  intro fuel cs x h
  have key : ∃ v bs, cs = [v] ∧ BS W v bs := by
    rcases open_ints hT hE hc h with ⟨rfl, _⟩ | ⟨x, n, c', zs, rfl, _, hl, hm, hz, _, hcell, hwz⟩
    · exact ⟨_, [], rfl, BS.nil W⟩
    · have hz' : zs.length = c' := by simpa using hz
      obtain ⟨bs, hbs⟩ := bvs_of_all (zs.map (Value.int .u8)) (fun i hi => by
        have hi' : i < zs.length := by simpa using hi
        obtain ⟨b, hb⟩ := bv_of_wf (hwz zs[i] (List.getElem_mem _))
        exact ⟨b, by simp [hi', hb]⟩)
      have hbl : bs.length = c' := by
        have := congrArg List.length hbs
        simpa [hz'] using this.symm
      refine ⟨_, bs.take n, rfl, _, _, _, rfl, (by simp [hbl]; omega), hl, hm, (fun e => by cases e), fun ad had i u hu => ?_⟩
      obtain rfl := Option.some.inj had
      rw [← bvs_take, List.getElem?_take] at hu
      split at hu
      · rw [← hbs] at hu
        simp only [List.getElem?_map, Option.map_eq_some_iff] at hu
        obtain ⟨z, hz1, rfl⟩ := hu
        have hi := (List.getElem?_eq_some_iff.1 hz1).1
        rw [hcell i hi]
        simp [List.getD, hz1]
      · cases hu
  obtain ⟨v, bs, rfl, hb⟩ := key
  have hr := bs_env0 hb
  refine ⟨bs, ?_, by simp only [reps]; exact ⟨_, _, rfl, hr, rfl⟩⟩
  obtain ⟨a, n, c, rfl, hS⟩ := hb
  have h1 := hS.len1; have h2 := hS.le; have h3 := hS.max
  omega
theorem oc_slice {T E : TypeId} {sz : Nat} (hT : P.underlying T = some (.slice E)) (hc : P.cellsOf E = sz) (hsz : 0 < sz) {α : Type} {ok : α → Prop} {f : α → List AV} (d : α) (hE : OC P W H enc E ok f) :
    OC P W H enc T (fun l : List α => l.length ≤ maxLen ∧ ∀ a ∈ l, ok a) (fun l => [.sl 0 sz f d l]) := by
  intro fuel cs x h
  rcases Go.Deep.open_slice hT h with ⟨rfl, _⟩ | ⟨a, len, cap, m, n, D, Pl, rfl, _, hl, hm, hmm, _, hx⟩
  · refine ⟨[], ⟨by simp, by simp⟩, ?_⟩
    simp only [reps, rep]
    exact ⟨_, _, rfl, ⟨none, 0, 0, rfl, rfl, Nat.le_refl _, Nat.zero_le _, fun _ => rfl, by simp⟩, rfl⟩
  · simp only [if_true] at hmm
    subst hmm
    rw [hc] at hx
    have each : ∀ i, i < len → ∃ y : α, ok y ∧ ∃ cs' : List Value, cs'.length = sz ∧ reps (env0 W) W (f y) cs' ∧ ∀ j u, cs'[j]? = some u → W.cell? ((a.add (i * sz)).add j) = some u := by
      intro i hi
      obtain ⟨cs', h1, h2⟩ := hx i (by omega)
      obtain ⟨y, h3, h4⟩ := hE n cs' _ h2
      obtain ⟨h5, h6, h7⟩ := World.cells?_some h1
      exact ⟨y, h3, cs', by omega, h4, fun j u hu => by
        have hj := (List.getElem?_eq_some_iff.1 hu).1
        rw [h7 j (by omega)]; exact hu⟩
    have build : ∀ k, k ≤ len → ∃ l : List α, l.length = k ∧ ∀ i y, l[i]? = some y → ok y ∧ ∃ cs' : List Value, cs'.length = sz ∧ reps (env0 W) W (f y) cs' ∧ ∀ j u, cs'[j]? = some u → W.cell? ((a.add (i * sz)).add j) = some u := by
      intro k
      induction k with
      | zero => intro _; exact ⟨[], rfl, by simp⟩
      | succ k ih =>
        intro hk
        obtain ⟨l, h1, h2⟩ := ih (by omega)
        obtain ⟨y, hy⟩ := each k hk
        refine ⟨l ++ [y], by simp [h1], fun i z hz => ?_⟩
        rw [List.getElem?_append] at hz
        split at hz
        · exact h2 i z hz
        · rename_i hi
          have : i = k := by
            have := (List.getElem?_eq_some_iff.1 hz).1
            simp at this; omega
          subst this
          simp [h1] at hz
          subst hz
          exact hy
    obtain ⟨l, h1, h2⟩ := build len (Nat.le_refl _)
    refine ⟨l, ⟨by omega, fun y hy => ?_⟩, ?_⟩
    · obtain ⟨i, hi, rfl⟩ := List.getElem_of_mem hy
      exact (h2 i _ (List.getElem?_eq_getElem hi)).1
    · simp only [reps, rep]
      refine ⟨_, _, rfl, ⟨some a, len, _, rfl, h1.symm, hl, hm, (fun e => by cases e), fun i y hy => ?_⟩, rfl⟩
      obtain ⟨_, cs', h3, h4, h5⟩ := h2 i y hy
      have h0 := h5 0 _ (List.getElem?_eq_getElem (by omega))
      have hi := (List.getElem?_eq_some_iff.1 hy).1
      obtain ⟨_, cs0, g3, g4, g5⟩ := h2 0 _ (List.getElem?_eq_getElem (by omega))
      have g0 := g5 0 _ (List.getElem?_eq_getElem (by omega))
      rw [Nat.zero_mul, show (a.add 0).add 0 = a by simp [Addr.add]] at g0
      have hsp : a.spot = none := by
        unfold World.cell? at g0
        cases hs : a.spot with
        | none => rfl
        | some k =>
          simp only [hs, Option.isSome_some, if_true] at g0
          split at g0 <;> cases g0
      clear g0 g5 g4
      obtain ⟨b, o, sp⟩ := a
      simp only at hsp
      subst hsp
      simp only [Addr.add_lit] at h5 h0
      refine ⟨b, o, cs', rfl, ⟨rfl, ?_⟩, h3, h4, h5⟩
      unfold World.cell? at h0
      simp only at h0
      cases hb : W.heap[b]? with
      | none => simp [hb] at h0
      | some _ => exact (Array.getElem?_eq_some_iff.1 hb).1
end
end Go.Proofs.Ytjfenbkhgamidaa
