/- The walk of the statement VnameTells. Conditions: the arguments fit their kinds. -/
import Derived.Test.YtccelefolepmeaaVnd
import Derived.Test.YtccelefolepmeaaVne
import Derived.Test.YtccelefolepmeaaVnf
namespace Go.Proofs.Ytccelefolepmeaa
open Go.RowKit
set_option linter.unusedVariables false
set_option maxHeartbeats 8000000 in
theorem walk_VnameTells (w : World) (s : ByteArray) (ws : s.size ≤ maxLen) (g : List UInt8) (hg : g.length = 16) (q : Int) (wq : (Lit.int .u8 q).wf = true) (v : Value) (key : List UInt8) (hv : BS w v key) (k : Int) (wk : (Lit.int .u8 k).wf = true) (a : Int) (wa : (Lit.int .u32 a).wf = true) :
    Calls Try.prog 5 #[.string s, gv g, .int .u8 q, v, .int .u8 k, .int .u32 a] w fun e w' => e = .returned (.bool true) ∧ Below w.heap.size w w' := by
  obtain ⟨q0, q1⟩ := bounds_u8 wq
  obtain ⟨k0, k1⟩ := bounds_u8 wk
  obtain ⟨a0, a1⟩ := bounds_u32 wa
  clear wq wk wa
  have HV := Lib.hid hv
  have HGG := Lib.hid hg
  have WSS := Lib.hid ws
  have WS := Lib.hid ws
  unfold maxLen at ws
  have HG := Lib.hid hg; clear hg
  have lg : Hid ((bvs g).length = 16) := by show _ = _; simp [HG.out]
  obtain ⟨av, n, c, rfl, hsl⟩ := hv
  have hn := hsl.len1
  have HN := Lib.hid hn; clear hn
  have BV : Hid (BS w (.slice av n c) key) := ⟨_, _, _, rfl, hsl⟩
  have hc1 := hsl.le
  have hc2 := hsl.max
  unfold maxLen at hc2
  clear hsl
  have h0 : Below w.heap.size w (w.alloc (.cells (bvs g).toArray 31)) := (Below.refl _ w).alloc (Nat.le_refl _) _
  have H0 := Lib.hid h0; clear h0
  have end1 : ∀ (w1 : World) e w5, Below w.heap.size w w1 → (e = Ending.returned (.bool true) ∧ Below w1.heap.size w1 w5) → Below w.heap.size w w5 := fun w1 e w5 h1 h2 => h1.trans (h2.2.mono h1.size)
  have END := Lib.hid end1; clear end1
  have hn0 : key.length = n := HN.out
  by_cases hA : 4096 < s.size
  · unfold gv
    go_enter Try.func5, Try.ntmps5
    go_wp2_with fail
    refine (works_spec _).mono ?_
    intro e w5 h5
    have HB5 := Lib.hid (END.out _ _ _ H0.out h5)
    obtain ⟨rfl, _⟩ := h5
    go_wp2_with fail
    go_ret
    exact ⟨rfl, HB5.out⟩
  by_cases hB : 4096 < n
  · unfold gv
    go_enter Try.func5, Try.ntmps5
    go_wp2_with fail
    refine (works_spec _).mono ?_
    intro e w5 h5
    have HB5 := Lib.hid (END.out _ _ _ H0.out h5)
    obtain ⟨rfl, _⟩ := h5
    go_wp2_with fail
    go_ret
    exact ⟨rfl, HB5.out⟩
  obtain ⟨qn, rfl⟩ := Int.eq_ofNat_of_zero_le q0
  have hq3 : qn % 3 = 0 ∨ qn % 3 = 1 ∨ qn % 3 = 2 := by omega
  have hB' : ¬ 4096 < key.length := by rw [hn0]; exact hB
  rcases hq3 with hq | hq | hq
  · exact tells_q0 w s WSS.out g HGG.out qn q1 hq _ key HV.out k k0 k1 a a0 a1 hA hB'
  · exact tells_q1 w s WSS.out g HGG.out qn q1 hq _ key HV.out k k0 k1 a a0 a1 hA hB'
  · exact tells_q2 w s WSS.out g HGG.out qn q1 hq _ key HV.out k k0 k1 a a0 a1 hA hB'
end Go.Proofs.Ytccelefolepmeaa
