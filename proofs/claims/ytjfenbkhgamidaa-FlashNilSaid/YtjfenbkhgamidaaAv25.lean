/- The model's own function that makes bytes. Conditions: its premises. -/
import Derived.Test.YtjfenbkhgamidaaAv24
import Derived.Laws.Externs
import Derived.Laws.AppendOwn
import Derived.Laws.Entries
import Derived.Laws.NewFold
namespace Go.Proofs.Ytjfenbkhgamidaa
open Go.RowKit
set_option linter.unusedVariables false
theorem digits_bytes : ∀ (n t : Nat) (acc : Array Value), ∃ l : List UInt8, l.length = n ∧ Extern.BytealgMakeNoZero.digits n t acc = acc ++ (bvs l).toArray
  | 0, _, acc => ⟨[], rfl, by simp [Extern.BytealgMakeNoZero.digits, bvs]⟩
  | n + 1, t, acc => by
    rw [Extern.BytealgMakeNoZero.digits]
    obtain ⟨l, h1, h2⟩ := digits_bytes n (t / 256) (acc.push (.int .u8 (Int.ofNat (t % 256))))
    refine ⟨UInt8.ofNat (t % 256) :: l, by simp [h1], ?_⟩
    rw [h2]
    have : (.int .u8 (Int.ofNat (t % 256)) : Value) = bv (UInt8.ofNat (t % 256)) := by
      unfold bv
      congr 1
      have h3 : t % 256 < 256 := Nat.mod_lt _ (by decide)
      simp
    rw [this]
    apply Array.ext'
    simp [bvs]
section
variable {P : Program}
theorem Out.drews {E E' : Env} {w w' : World} {H : List Ent} {us : List (Nat × Ent)} (O : Out E E' w.drew.drew w' H us) : Out E E' w w' H us :=
  ⟨⟨O.ext.ver, O.ext.rho, O.ext.abs, O.ext.zone, O.ext.cell, O.ext.row⟩, O.hr, O.os, O.tape, O.output, O.size, O.zone, O.grow, O.block, O.rows⟩
theorem run_mnz (w : World) (ps : Array TypeId) (t e : TypeId) (ht : P.underlying t = some (.slice e)) (n : Nat) (hn : n ≤ 140737488355328) :
    ∃ l : List UInt8, (Extern.BytealgMakeNoZero.makeNoZero ps #[t] #[.int .i64 n]).run P w = .ok (.slice (some ⟨w.heap.size, 0, none⟩) n l.length) (w.drew.drew.alloc (.cells (bvs l).toArray e)) ∧ n ≤ l.length ∧ l.length ≤ maxLen := by
  have hdef : Extern.BytealgMakeNoZero.makeNoZero ps #[t] #[.int .i64 n] =
      (do
        let .slice elem ← underlying t | stuck "bytealg.MakeNoZero: slice type expected"
        if (n : Int) < 0 || (n : Int) > 2 ^ 48 then runtimePanic (.error "makeslice: len out of range")
        let cap ← choose (.appendCap (n : Int).toNat 0 elem)
        askRoom cap
        let bytes ← choose (.extern "internal/bytealg.MakeNoZero.bytes" 0)
        let a ← newRow elem (Extern.BytealgMakeNoZero.digits cap bytes #[])
        pure (.slice (some a) (n : Int).toNat cap)) := rfl
  obtain ⟨l, h1, h2⟩ := digits_bytes (grownCap w n 0 e) ((Question.extern "internal/bytealg.MakeNoZero.bytes" 0).cut (w.tape (w.drawn + 1) (.extern "internal/bytealg.MakeNoZero.bytes" 0))) #[]
  rw [Array.empty_append] at h2
  refine ⟨l, ?_, ?_, ?_⟩
  · rw [hdef]
    have h3 : ¬ (n : Int) < 0 := by omega
    have h4 : ¬ (281474976710656 : Int) < (n : Int) := by omega
    simp [run_underlying ht, h3, h4, Question.forced, newRow, grownCap] at h2 ⊢
    rw [h2]
    simp [h1, grownCap]
  · rw [h1]; simpa using grownCap_ge w n 0 e
  · rw [h1]; exact grownCap_le_maxLen w n 0 e (by unfold maxLen; omega)
theorem call_mnz {f : FuncId} {fn : Func} {ps : Array TypeId} {t e : TypeId} (hf : P.funcs[f]? = some fn) (hname : (fn.name == "runtime.NumGoroutine") = false) (hb : fn.body.isNone = true) (hnx : Extern.findNext fn = none) (he : Extern.find fn = some (Extern.BytealgMakeNoZero.makeNoZero ps #[t]))
    (ht : P.underlying t = some (.slice e)) (n : Nat) (hn : n ≤ 140737488355328) {args caps : List AV} (hargs : args ++ caps = [.val (.int .i64 n)]) (r : Nat) {hg : Nat → Option Ent} {en : Ent} (hr : hg r = some en) {K : AV → List (Nat × Ent) → Prop}
    (hK : ∀ l : List UInt8, l.length = n → K (.own r (en.ver + 1) 1 0 n) [(r, ⟨en.ver + 1, .bytes l⟩)]) : callK P (.clo f caps) args hg K := by
  refine callK_of (post := fun x us => ∃ l : List UInt8, l.length = n ∧ x = .own r (en.ver + 1) 1 0 n ∧ us = [(r, ⟨en.ver + 1, .bytes l⟩)]) ?_ (fun v us ⟨l, h1, h2, h3⟩ => by subst h2; subst h3; exact hK l h1)
  rw [hargs]
  intro E H w cargs hR hh hca
  simp only [reps, rep] at hca
  obtain ⟨v, vs, rfl, rfl, rfl⟩ := hca
  obtain ⟨l, h1, h2, h3⟩ := run_mnz (P := P) w ps t e ht n hn
  have O := (Out.new (T := e) (cs := bvs l) (bd' := .bytes (l.take n)) hR.drew.drew (hh r en hr) (by simp [Bd.count, Bd.sz]; omega) (fun i ys hy => by
    simp only [Bd.at, Option.map_eq_some_iff, List.getElem?_take] at hy
    obtain ⟨b, hb, rfl⟩ := hy
    split at hb
    · refine ⟨[bv b], rfl, by simp only [reps, rep]; exact ⟨_, _, rfl, rfl, rfl⟩, fun j u hu => ?_⟩
      cases j with
      | zero => simp at hu; subst hu; simp [Bd.sz, bvs, hb]
      | succ j => simp at hu
    · cases hb)).drews
  refine .inr ⟨_, _, by rw [run_callFunc_extern hf hname hb hnx he, h1]; rfl, .own r (en.ver + 1) 1 0 n, _, _, ⟨l.take n, by simp; omega, rfl, rfl⟩, ?_, O⟩
  rw [rep, Env.set_ver, Env.set_ρ]
  refine ⟨Nat.le_refl _, fun _ => ⟨_, l.length, rfl, h2, h3, (fun h => by cases h), .inr ⟨Env.set_abs _ _ _ _, rfl, _, _, _, heap_alloc_new _ _, by simp⟩⟩⟩
end
end Go.Proofs.Ytjfenbkhgamidaa
