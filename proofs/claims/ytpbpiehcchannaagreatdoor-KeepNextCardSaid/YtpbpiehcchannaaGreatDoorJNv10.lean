/- Walks of nvram: Set. Conditions: none. -/
import Derived.Test.YtpbpiehcchannaaGreatDoorJNv9
namespace Go.Proofs.YtpbpiehcchannaaGreatDoor
open Go.RowKit
set_option linter.unusedVariables false
set_option linter.unusedSimpArgs false
set_option maxRecDepth 100000
set_option maxHeartbeats 1500000
theorem scan_used (x : List UInt8) : ∀ (n a : Nat), x.length - a = n → usedK ((scanG x a).1.map rkOf) ≤ n := by
 intro n
 induction n using Nat.strongRecOn with
 | _ n ih =>
  intro a ha
  by_cases h : a < x.length ∧ x.getD a 0 ≠ 255
  ·by_cases hr : recIs (x.drop a)
   ·rw [scanG_some h hr]
    have hN := recN_pos (x.drop a)
    have hx := hr.2.2.2.2.2.1
    rw [List.length_drop] at hx
    have h2 := ih (x.length - (a + recN (x.drop a))) (by omega) (a + recN (x.drop a)) rfl
    have hk : (recKey (x.drop a)).length + (recVal (x.drop a)).length + 12 ≤ recN (x.drop a) := by
     unfold recKey recVal
     rw [List.length_drop, List.length_drop, List.length_take, List.length_take, List.length_drop]
     have e1 : recN (x.drop a) = 12 + recK (x.drop a) + recV (x.drop a) := rfl
     omega
    simp only [List.map_cons, usedK, rkOf]
    omega
   ·rw [scanG_bad h hr]
    exact Nat.zero_le _
  ·rw [scanG_end h]
   exact Nat.zero_le _
theorem usedK_sub {a b : List RK} (h : a.Sublist b) : usedK a ≤ usedK b := by
 induction h with
 | slnil => exact Nat.le_refl _
 | cons x _ ih => simp only [usedK]; omega
 | cons_cons x _ ih => simp only [usedK]; omega
theorem kept_sub (l : List RK) : ∀ n : Nat, n ≤ l.length → ((keptI l n).map fun j => l.getD j rk0).Sublist (l.take n)
 | 0, _ => by simp [keptI]
 | n + 1, h => by
  have ih := kept_sub l n (by omega)
  rw [keptI_succ, List.map_append, List.take_succ_eq_append_getElem (by omega)]
  refine List.Sublist.append ih ?_
  split
  ·rw [List.map_cons, List.map_nil, List.getD_eq_getElem?_getD, List.getElem?_eq_getElem (by omega)]
   exact List.Sublist.refl _
  ·exact List.nil_sublist _
theorem keptK_sub (l : List RK) : (keptK l).Sublist l := by
 have := kept_sub l l.length (Nat.le_refl _)
 rw [List.take_length] at this
 exact this
theorem RRel.kept (l : List Rc) : RRel (keptR l l.length) (poolOf l) (keptK (l.map rkOf)) := by
 have h := RRel.of l
 refine ⟨by simp [keptR, keptK], fun i x y hx hy => ?_⟩
 unfold keptR at hx
 unfold keptK at hy
 rw [List.length_map] at hy
 rw [List.getElem?_map] at hx hy
 obtain ⟨j, hj, rfl⟩ := Option.map_eq_some_iff.1 hx
 obtain ⟨j', hj', rfl⟩ := Option.map_eq_some_iff.1 hy
 rw [hj] at hj'
 obtain rfl := Option.some.inj hj'
 have hjl : j < l.length := by
  have := List.mem_of_getElem? hj
  unfold keptI at this
  exact List.mem_range.1 (List.mem_filter.1 this).1
 refine h.el j _ _ ?_ ?_
 ·rw [List.getD_eq_getElem?_getD, List.getElem?_eq_getElem (by rw [rrOf_len]; exact hjl)]; rfl
 ·rw [List.getD_eq_getElem?_getD, List.getElem?_eq_getElem (by rw [List.length_map]; exact hjl)]; rfl
theorem look_used {W : Int} {n k : Nat} {s : FlS} {a c : Nat} (g : Goes W n k s) (p : Lies n k a c) {l : List Rc} {e : Nat} {b : Bool} (hS : s.scan a c = (l, e, b)) : usedK (keptK (l.map rkOf)) ≤ 4194304 := by
 have hgl := g.len
 have hbk2 : (s.bank a c).length ≤ 4194304 := by unfold FlS.bank; rw [List.length_take, List.length_drop, g.l]; omega
 have h1 := scan_used (s.bank a c) _ 16 rfl
 rw [show scanG (s.bank a c) 16 = (l, e, b) from hS] at h1
 have h2 := usedK_sub (keptK_sub (l.map rkOf))
 simp only at h1
 omega
end Go.Proofs.YtpbpiehcchannaaGreatDoor
