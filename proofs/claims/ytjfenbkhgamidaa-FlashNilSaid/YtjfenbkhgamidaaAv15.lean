/- Abstract values: a region that draws its order: one order is enough. Conditions: the premises of 'draw_of'. -/
import Derived.Test.YtjfenbkhgamidaaAv14
namespace Go.Proofs.Ytjfenbkhgamidaa
open Go.RowKit
set_option linter.unusedVariables false
abbrev Us := List (Nat × Ent)
def lastU : Us → Nat → Option Ent
  | [], _ => none
  | (q, e) :: us, r => match lastU us r with
    | some e' => some e'
    | none => if q = r then some e else none
theorem updH_getU : ∀ (us : Us) (H : List Ent) (r : Nat), (updH H us)[r]? = (H[r]?).map fun e0 => (lastU us r).getD e0
  | [], H, r => by simp [updH, lastU]
  | (q, e) :: us, H, r => by
    simp only [updH, setL_eq, lastU]
    rw [updH_getU us]
    by_cases hq : q = r
    · subst hq
      by_cases hlt : q < H.length
      · rw [List.getElem?_set_self hlt, List.getElem?_eq_getElem hlt]
        cases lastU us q <;> simp
      · rw [List.getElem?_eq_none (by simpa using hlt), List.getElem?_eq_none (by simpa using hlt)]; rfl
    · rw [List.getElem?_set_ne hq]
      cases lastU us r <;> simp [hq]
theorem updH_length : ∀ (us : Us) (H : List Ent), (updH H us).length = H.length
  | [], _ => rfl
  | (q, e) :: us, H => by simp only [updH, setL_eq]; rw [updH_length us]; simp
abbrev Tr := List (Nat × AV × Us)
section
variable (dst : Nat → Option Tmp)
def app1 (i : Nat) (v : AV) (us : Us) (s : St) : St := ⟨setD s.t (dst i) v, updH s.H us⟩
def appL (L : Nat → Bool) : Tr → St → St
  | [], s => s
  | (i, v, us) :: tr, s => appL L tr (if L i then app1 dst i v us s else s)
def lastT (L : Nat → Bool) : Tr → Nat → Option Ent
  | [], _ => none
  | (i, _, us) :: tr, r => match lastT L tr r with
    | some e => some e
    | none => if L i then lastU us r else none
def lastS (L : Nat → Bool) : Tr → Nat → Option AV
  | [], _ => none
  | (i, v, _) :: tr, k => match lastS L tr k with
    | some e => some e
    | none => if L i && dst i == some k then some v else none
theorem setD_get (t : List AV) (d : Option Tmp) (v : AV) (k : Nat) : (setD t d v)[k]? = (t[k]?).map fun x0 => if d = some k then v else x0 := by
  cases d with
  | none => simp [setD]
  | some d =>
    simp only [setD, setL_eq, Option.some.injEq]
    by_cases hd : d = k
    · subst hd
      by_cases hlt : d < t.length
      · rw [List.getElem?_set_self hlt, List.getElem?_eq_getElem hlt]; simp
      · rw [List.getElem?_eq_none (by simpa using hlt), List.getElem?_eq_none (by simpa using hlt)]; rfl
    · rw [List.getElem?_set_ne hd]; simp [hd]
theorem appL_H (L : Nat → Bool) : ∀ (tr : Tr) (s : St) (r : Nat), (appL dst L tr s).H[r]? = (s.H[r]?).map fun e0 => (lastT L tr r).getD e0
  | [], s, r => by simp [appL, lastT]
  | (i, v, us) :: tr, s, r => by
    simp only [appL, lastT]
    rw [appL_H L tr]
    cases hL : L i
    · simp only [Bool.false_eq_true, if_false]
      cases lastT L tr r <;> simp
    · simp only [if_true, app1, updH_getU, Option.map_map]
      cases lastT L tr r <;> simp [Function.comp_def]
theorem appL_t (L : Nat → Bool) : ∀ (tr : Tr) (s : St) (k : Nat), (appL dst L tr s).t[k]? = (s.t[k]?).map fun e0 => (lastS dst L tr k).getD e0
  | [], s, r => by simp [appL, lastS]
  | (i, v, us) :: tr, s, k => by
    simp only [appL, lastS]
    rw [appL_t L tr]
    cases hL : L i
    · simp only [Bool.false_eq_true, if_false, Bool.false_and]
      cases lastS dst L tr k <;> simp
    · simp only [if_true, app1, setD_get, Option.map_map, Bool.true_and]
      cases lastS dst L tr k with
      | some e => simp [Function.comp_def]
      | none =>
        simp only [Option.getD_none, Function.comp_def]
        by_cases hd : dst i = some k
        · simp [hd]
        · simp [hd]
theorem St.ext' {s s' : St} (h1 : ∀ k : Nat, s.t[k]? = s'.t[k]?) (h2 : ∀ r : Nat, s.H[r]? = s'.H[r]?) : s = s' := by
  cases s; cases s'
  simp only [St.mk.injEq]
  exact ⟨List.ext_getElem? h1, List.ext_getElem? h2⟩
theorem lastT_append (L : Nat → Bool) : ∀ (a b : Tr) (r : Nat), lastT L (a ++ b) r = (lastT L b r).or (lastT L a r)
  | [], b, r => by simp [lastT]
  | (i, v, us) :: a, b, r => by
    simp only [List.cons_append, lastT]
    rw [lastT_append L a b]
    cases lastT L b r <;> simp
theorem lastS_append (L : Nat → Bool) : ∀ (a b : Tr) (r : Nat), lastS dst L (a ++ b) r = (lastS dst L b r).or (lastS dst L a r)
  | [], b, r => by simp [lastS]
  | (i, v, us) :: a, b, r => by
    simp only [List.cons_append, lastS]
    rw [lastS_append L a b]
    cases lastS dst L b r <;> simp
theorem lastT_congr {L L' : Nat → Bool} {r : Nat} : ∀ {tr : Tr}, (∀ y ∈ tr, lastU y.2.2 r ≠ none → L y.1 = L' y.1) → lastT L tr r = lastT L' tr r
  | [], _ => rfl
  | (i, v, us) :: tr, h => by
    simp only [lastT]
    rw [lastT_congr (tr := tr) (fun y hy => h y (by simp [hy]))]
    by_cases hu : lastU us r = none
    · simp [hu]
    · rw [h (i, v, us) (by simp) hu]
theorem lastT_none {L : Nat → Bool} {r : Nat} : ∀ {tr : Tr}, (∀ y ∈ tr, lastU y.2.2 r ≠ none → L y.1 = false) → lastT L tr r = none
  | [], _ => rfl
  | (i, v, us) :: tr, h => by
    simp only [lastT]
    rw [lastT_none (tr := tr) (fun y hy => h y (by simp [hy]))]
    by_cases hu : lastU us r = none
    · simp [hu]
    · simp [h (i, v, us) (by simp) hu]
theorem lastS_congr {L L' : Nat → Bool} {k : Nat} : ∀ {tr : Tr}, (∀ y ∈ tr, dst y.1 = some k → L y.1 = L' y.1) → lastS dst L tr k = lastS dst L' tr k
  | [], _ => rfl
  | (i, v, us) :: tr, h => by
    simp only [lastS]
    rw [lastS_congr (tr := tr) (fun y hy => h y (by simp [hy]))]
    by_cases hu : dst i = some k
    · rw [h (i, v, us) (by simp) hu]
    · simp [hu]
theorem lastS_none {L : Nat → Bool} {k : Nat} : ∀ {tr : Tr}, (∀ y ∈ tr, dst y.1 = some k → L y.1 = false) → lastS dst L tr k = none
  | [], _ => rfl
  | (i, v, us) :: tr, h => by
    simp only [lastS]
    rw [lastS_none (tr := tr) (fun y hy => h y (by simp [hy]))]
    by_cases hu : dst i = some k
    · simp [h (i, v, us) (by simp) hu]
    · simp [hu]
/-- one operation more -/
theorem appL_add {L : Nat → Bool} {t1 t2 : Tr} {i : Nat} {v : AV} {us : Us} {s : St} (hi : L i = false) (h1 : ∀ y ∈ t1, y.1 ≠ i) (h2 : ∀ y ∈ t2, y.1 ≠ i)
    (hS : ∀ y ∈ t2, ∀ k, dst i = some k → dst y.1 = some k → L y.1 = false) (hH : ∀ y ∈ t2, ∀ r, lastU us r ≠ none → lastU y.2.2 r ≠ none → L y.1 = false) :
    appL dst (fun j => L j || j == i) (t1 ++ (i, v, us) :: t2) s = app1 dst i v us (appL dst L (t1 ++ (i, v, us) :: t2) s) := by
  have e1 : ∀ {tr : Tr}, (∀ y ∈ tr, y.1 ≠ i) → ∀ r, lastT (fun j => L j || j == i) tr r = lastT L tr r := fun h r => lastT_congr fun y hy _ => by simp [h y hy]
  have e2 : ∀ {tr : Tr}, (∀ y ∈ tr, y.1 ≠ i) → ∀ k, lastS dst (fun j => L j || j == i) tr k = lastS dst L tr k := fun h k => lastS_congr dst fun y hy _ => by simp [h y hy]
  refine St.ext' (fun k => ?_) (fun r => ?_)
  · rw [appL_t]
    simp only [app1, setD_get, appL_t, Option.map_map]
    congr 1
    funext x0
    simp only [Function.comp_def]
    rw [lastS_append, lastS_append]
    simp only [lastS, e2 h1, e2 h2, hi, Bool.false_or, beq_self_eq_true, Bool.true_and, Bool.false_and, Bool.false_eq_true, if_false]
    by_cases hd : dst i = some k
    · have := lastS_none dst (L := L) (k := k) (tr := t2) (fun y hy h => hS y hy k hd h)
      simp [this, hd]
    · simp only [hd, beq_iff_eq, if_false]
  · rw [appL_H]
    simp only [app1, updH_getU, appL_H, Option.map_map]
    congr 1
    funext e0
    simp only [Function.comp_def]
    rw [lastT_append, lastT_append]
    simp only [lastT, e1 h1, e1 h2, hi, Bool.false_or, beq_self_eq_true, if_true, Bool.false_eq_true, if_false]
    by_cases hu : lastU us r = none
    · simp [hu]
    · have := lastT_none (L := L) (r := r) (tr := t2) (fun y hy h => hH y hy r hu h)
      obtain ⟨e, he⟩ := Option.ne_none_iff_exists'.1 hu
      simp [this, he]
/-- what is read is as it was -/
theorem appL_same_H {L : Nat → Bool} {t1 t2 : Tr} {s : St} {r : Nat} (h1 : ∀ y ∈ t1, lastU y.2.2 r ≠ none → L y.1 = true) (h2 : ∀ y ∈ t2, lastU y.2.2 r ≠ none → L y.1 = false) :
    (appL dst L (t1 ++ t2) s).H[r]? = (appL dst (fun _ => true) t1 s).H[r]? := by
  rw [appL_H, appL_H, lastT_append, lastT_none h2, lastT_congr (L' := fun _ => true) (fun y hy h => h1 y hy h)]
  simp
theorem appL_same_t {L : Nat → Bool} {t1 t2 : Tr} {s : St} {k : Nat} (h1 : ∀ y ∈ t1, dst y.1 = some k → L y.1 = true) (h2 : ∀ y ∈ t2, dst y.1 = some k → L y.1 = false) :
    getA (appL dst L (t1 ++ t2) s).t k = getA (appL dst (fun _ => true) t1 s).t k := by
  unfold getA
  rw [getL_eq, getL_eq, appL_t, appL_t, lastS_append, lastS_none dst h2, lastS_congr dst (L' := fun _ => true) (fun y hy h => h1 y hy h)]
  simp
end
end Go.Proofs.Ytjfenbkhgamidaa
