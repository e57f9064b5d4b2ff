/- Package vname and its reference: contracts of Key. Conditions: a string of at most 2^46 bytes, a guid of 16 bytes. -/
import Derived.Test.YtccelefolepmeaaVn1
namespace Go.Proofs.Ytccelefolepmeaa
open Go.RowKit
set_option linter.unusedVariables false

/-- what Key answers -/
def KeyPost (w : World) (s g : List UInt8) (e : Ending) (w' : World) : Prop :=
  Below w.heap.size w w' ∧ ((rightB s = false ∧ e = .returned (.tuple #[.slice none 0 0, .int .i64 1])) ∨
    (rightB s = true ∧ ∃ v, e = .returned (.tuple #[v, .int .i64 0]) ∧ Own w' w.heap.size 1 v (16 + s.length) (bvs (g ++ s))))
theorem gv_cells (g : List UInt8) : (gv g).cells = (bvs g).toArray := rfl
theorem rightB_len {l : List UInt8} (h : rightB l = true) : l.length ≤ 64 := by
  unfold rightB at h; simp at h; exact h.2

set_option maxHeartbeats 400000 in
theorem key_spec (s : ByteArray) (g : List UInt8) (w : World) (hs : s.size ≤ maxLen) (hg : g.length = 16) :
    Calls Try.prog 12 #[.string s, gv g] w fun e w' => KeyPost w s.data.toList g e w' := by
  have hcs : (bvs g).toArray.size = 16 := by simp [hg]
  have HG := Lib.hid hg; clear hg
  unfold gv
  generalize hcse : (bvs g).toArray = cs at hcs
  have HE := Lib.hid hcse; clear hcse
  go_enter Try.func12, Try.ntmps12
  go_wp2_with fail
  refine (right_spec _ _ hs).mono ?_
  rintro e w1 ⟨rfl, hb⟩
  have hb0 : Below w.heap.size w w1 := ((Below.refl _ w).alloc (Nat.le_refl _) _).trans (hb.mono (by simp))
  have HB := Lib.hid hb0; clear hb0
  cases hr : rightB s.data.toList
  · have HR := Lib.hid hr; clear hr hb
    go_wp2_with fail
    go_ret2
    exact ⟨HB.out, .inl ⟨HR.out, rfl⟩⟩
  · have HR := Lib.hid hr; clear hr
    have hblk : w1.heap[w.heap.size]? = some (.cells cs 31) := (hb.block _ (by simp)).trans (heap_alloc_new w _)
    have hsz1 : w.heap.size ≤ w1.heap.size := by have := hb.size; simp at this; omega
    have hown : Own w1 w.heap.size 1 (.slice (some ⟨w.heap.size, 0, none⟩) 16 16) 16 (bvs g) :=
      ⟨by simp [HG.out], .inr ⟨_, _, cs, _, 0, 0, rfl, Nat.le_refl _, hblk, .inl (Nat.le_refl _), Nat.le_refl _, by unfold maxLen; omega, by rw [hcs], by rw [← HE.out]; exact List.take_of_length_le (by simp [HG.out])⟩⟩
    have hl := rightB_len HR.out
    have hsl : s.data.toList.length = s.size := by simp
    have HO := Lib.hid hown; clear hown
    clear hb hblk
    go_wp2_with ((with_reducible show wpList _ _ _ (Oper.mk (some 11) (Op.call _) _ _ _ _ :: _) _ _); refine wpl_append rfl _ _ 28 9 rfl TB _ rfl HO.out _ rfl (Src.ofString w1 Try.underlying9 s) (by unfold maxLen; omega) (by omega) hsz1 ?_; intro v w2 hown2 hch hblk2)
    go_ret2
    refine ⟨HB.out.trans (hch.below (fun k hk e => ?_) hsz1), .inr ⟨HR.out, v, rfl, ?_⟩⟩
    · exact HO.out.ge k e
    · rw [bvs_append]
      rw [bvs_string] at hown2
      rw [show 16 + s.data.toList.length = 16 + s.size by omega]
      exact hown2

set_option maxHeartbeats 400000 in
theorem refKey_spec (s : ByteArray) (g : List UInt8) (w : World) (hs : s.size ≤ maxLen) (hg : g.length = 16) :
    Calls Try.prog 13 #[.string s, gv g] w fun e w' => KeyPost w s.data.toList g e w' := by
  have hcs : (bvs g).toArray.size = 16 := by simp [hg]
  have HG := Lib.hid hg; clear hg
  unfold gv
  generalize hcse : (bvs g).toArray = cs at hcs
  have HE := Lib.hid hcse; clear hcse
  go_enter Try.func13, Try.ntmps13
  go_wp2_with fail
  refine (refRight_spec _ _ hs).mono ?_
  rintro e w1 ⟨rfl, hw1⟩
  subst hw1
  have hb0 : Below w.heap.size w (w.alloc (.cells cs 31)) := (Below.refl _ w).alloc (Nat.le_refl _) _
  have HB := Lib.hid hb0; clear hb0
  cases hr : rightB s.data.toList
  · have HR := Lib.hid hr; clear hr
    go_wp2_with fail
    go_ret2
    exact ⟨HB.out, .inl ⟨HR.out, rfl⟩⟩
  · have HR := Lib.hid hr; clear hr
    have hl := rightB_len HR.out
    have hsl : s.data.toList.length = s.size := by simp
    have hsrc : ∀ o, BS ((w.alloc (.cells cs 31)).alloc o) (.slice (some ⟨w.heap.size, 0, none⟩) 16 16) g := fun o =>
      Sl.below (w := w.alloc (.cells cs 31)) ⟨_, _, _, rfl, by simp [HG.out], Nat.le_refl _, by unfold maxLen; omega, fun e => (Option.some_ne_none _ e).elim, fun ad had j u hu => by
        obtain rfl := Option.some.inj had
        exact cells_of_block (heap_alloc_new w _) j u (by rw [← HE.out]; exact hu)⟩ ((Below.refl _ _).alloc (Nat.le_refl _) _)
    have HSRC := Lib.hid hsrc; clear hsrc
    go_wp2_with (first
      | ((with_reducible show wpList _ _ _ (Oper.mk (some 11) (Op.call _) _ _ _ _ :: _) _ _); refine wpl_append (B := w.heap.size) rfl _ _ 28 28 rfl TB _ rfl (Own.nil _ _ 1 _) _ rfl (Src.bs Try.underlying28 (HSRC.out _)) (by unfold maxLen; rw [HG.out]; omega) (by rw [HG.out]; omega) (by simp; omega) ?_; intro v1 w1 hown1 hch1 hblk1; have HO1 := Lib.hid hown1; clear hown1)
      | ((with_reducible show wpList _ _ _ (Oper.mk (some 13) (Op.call _) _ _ _ _ :: _) _ _); refine wpl_append rfl _ _ 28 9 rfl TB _ rfl HO1.out _ rfl (Src.ofString w1 Try.underlying9 s) (by unfold maxLen; rw [HG.out]; omega) (by rw [HG.out]; omega) (by have := hch1.size; simp at this; omega) ?_; intro v w2 hown2 hch2 hblk2))
    go_ret2
    have hs1 := hch1.size
    simp at hs1
    refine ⟨HB.out.trans (((Below.refl _ _).alloc (by simp) _).trans ((hch1.below (B := w.heap.size) (fun k hk e => by cases (show (none : Option Nat) = some k from e)) (by simp; omega)).trans (hch2.below (fun k hk e => HO1.out.ge k e) (by omega)))), .inr ⟨HR.out, v, rfl, ?_⟩⟩
    rw [bvs_append]
    rw [bvs_string] at hown2
    rw [show 16 + s.data.toList.length = 0 + g.length + s.size by rw [HG.out]; omega]
    exact hown2
end Go.Proofs.Ytccelefolepmeaa
