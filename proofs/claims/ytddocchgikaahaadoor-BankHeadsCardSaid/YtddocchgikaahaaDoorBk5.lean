/- Walks of bank: Need, head, lay. Conditions: none. -/
import Derived.Test.YtddocchgikaahaaDoorBk4
namespace Go.Proofs.YtddocchgikaahaaDoor
open Go.RowKit
set_option linter.unusedVariables false
set_option linter.unusedSimpArgs false
set_option maxRecDepth 100000
/-- a function that reads bytes may be asked with a slice of the caller's own -/
theorem own1 {P : Program} {f : FuncId} {rest : List AV} {X : AV} {mk : List (Nat × Ent)} {l : List UInt8} (o n : Nat) (h : o + n ≤ l.length) (S : Spec P f (.bs 0 ((l.drop o).take n) :: rest) [] (pms X [] mk)) (hX : zfA X) (hmk : zfM mk) (hrest : ∀ rows, AsL rows rest rest) (v : Nat) :
    Spec P f (.own 0 v 1 o n :: rest) [⟨v, .bytes l⟩] (pms (renA (shR 1) X) [⟨v, .bytes l⟩] (shM 1 mk)) :=
  spec_ro S hX hmk (rows := [⟨v, .bytes l⟩]) (args := .own 0 v 1 o n :: rest) (asL_cons (as_own (l := l) rfl h) (hrest _))
theorem whole (l : List UInt8) : (l.drop 0).take l.length = l := by rw [List.drop_zero, List.take_length]
theorem Put_own (l : List UInt8) (L : Nat) (hL : L = l.length) (hl : L ≤ 1000000000) (v : Nat) (x : Int) (hx : 0 ≤ x ∧ x ≤ 18446744073709551615) (n : Int) (hn : n = 1 ∨ n = 2 ∨ n = 4 ∨ n = 8) (R : List UInt8) (K : Nat) (hR : R = l ++ leB n.toNat x) (hK : K = L + n.toNat) : Spec Tryd.prog 52 [.own 0 v 1 0 L, .val (.int .u64 x), .val (.int .i64 n)] [⟨v, .bytes l⟩]
   (pms (.own 8 5 1 0 K) [⟨v, .bytes l⟩] [(8, ⟨5, .bytes R⟩)]) := by
  subst hL hR hK
  have h := own1 (l := l) 0 l.length (by omega) (Put_vc ((l.drop 0).take l.length) (by rw [whole]; exact hl) 0 x hx n hn) trivial ⟨trivial, trivial⟩ (fun _ => asL_cons as_val (asL_cons as_val asL_nil)) v
  rw [whole] at h
  exact h
def crcE (s : Int) (b : List UInt8) : Int := 4294967295 - crcF b (4294967295 - s)
theorem crcF_bound : ∀ (b : List UInt8) {x : Int}, 0 ≤ x ∧ x ≤ 4294967295 → 0 ≤ crcF b x ∧ crcF b x ≤ 4294967295
  | [], x, h => h
  | c :: b, x, h => by
    rw [crcF]
    have hc := c.toNat_lt
    have := xor_bound (a := x.toNat) (b := c.toNat) (by omega) (by omega)
    exact crcF_bound b (crcN_bound 2 (by omega))
theorem crcE_bound (b : List UInt8) {x : Int} (h : 0 ≤ x ∧ x ≤ 4294967295) : 0 ≤ crcE x b ∧ crcE x b ≤ 4294967295 := by
  have := crcF_bound b (x := 4294967295 - x) (by omega)
  unfold crcE; omega
theorem sum_own (l : List UInt8) (L : Nat) (hL : L = l.length) (hl : l.length ≤ 140737488355328) (v : Nat) : Spec Tryd.prog 53 [.own 0 v 1 0 L] [⟨v, .bytes l⟩] (pms (.val (.int .u32 (crcE 0 l))) [⟨v, .bytes l⟩] []) := by
  subst hL
  have h := own1 (l := l) 0 l.length (by omega) (spec_pms (sum_vc ((l.drop 0).take l.length) (by rw [whole]; exact hl) 0)) trivial trivial (fun _ => asL_nil) v
  rw [whole] at h
  exact h
theorem need_vc (k v : Int) (hk : 0 ≤ k ∧ k ≤ 4611686018427387903) (hv : 0 ≤ v ∧ v ≤ 4611686018427387000) : Spec Tryd.prog 17 [.val (.int .i64 k), .val (.int .i64 v)] [] (pst (.val (.int .i64 (12 + k + v))) []) := by
  refine spec_entry tbOk Tryd.func17 rfl Tryd.ntmps17 Tryd.results17 ?_
  (repeat (first | refine gos (k := ?_) | refine fun (_ : _ = false) => ?_ | refine ⟨fun (_ : true = true) => ?_, fun h => absurd h (by decide)⟩ | refine gtr (k := ?_)))
  exact ⟨_, rfl, rfl⟩
def headX (g : Int) : List UInt8 := [76, 78, 84, 76] ++ leB 4 g
def headB (g : Int) : List UInt8 := headX g ++ leB 4 (crcE 0 (headX g))
theorem headX_len (g : Int) : (headX g).length = 8 := by simp [headX, leB_len]
theorem headB_len (g : Int) : (headB g).length = 12 := by simp [headB, headX_len, leB_len]
theorem head_vc (g : Int) (hg : 0 ≤ g ∧ g ≤ 4294967295) : Spec Tryd.prog 36 [.val (.int .u32 g)] [] (pms (.own 13 6 1 0 12) [] [(13, ⟨6, .bytes (headB g)⟩)]) := by
  have hb := crcE_bound (headX g) (x := 0) (by decide)
  refine spec_entry tbOk Tryd.func36 rfl Tryd.ntmps36 Tryd.results36 ?_
  (repeat (first | refine gos (k := ?_) | refine fun (_ : _ = false) => ?_ | refine ⟨fun (_ : true = true) => ?_, fun h => absurd h (by decide)⟩ | refine gtr (k := ?_)))
  refine cmks (Put_own [76, 78, 84, 76] 4 rfl (by decide) 1 (g % 18446744073709551616) (by omega) 4 (by decide) (headX g) 8 (by rw [show g % 18446744073709551616 = g by omega]; rfl) rfl) Tryd.call52 1 [4, 0, 0, 0, 0, 0, 0, 0, 8] [0, 0, 0, 0, 0, 0, 0, 0, 1] [8] ?_
  (repeat (first | refine gos (k := ?_) | refine fun (_ : _ = false) => ?_ | refine ⟨fun (_ : true = true) => ?_, fun h => absurd h (by decide)⟩ | refine gtr (k := ?_)))
  refine cmks (sum_own (headX g) 8 (headX_len g).symm (by rw [headX_len]; decide) 6) Tryd.call53 1 [8] [0] [] ?_
  (repeat (first | refine gos (k := ?_) | refine fun (_ : _ = false) => ?_ | refine ⟨fun (_ : true = true) => ?_, fun h => absurd h (by decide)⟩ | refine gtr (k := ?_)))
  refine cmks (Put_own (headX g) 8 (headX_len g).symm (by decide) 6 (crcE 0 (headX g) % 18446744073709551616) (by omega) 4 (by decide) (headB g) 12 (by rw [show crcE 0 (headX g) % 18446744073709551616 = crcE 0 (headX g) by omega]; rfl) rfl) Tryd.call52 1 [8, 0, 0, 0, 0, 0, 0, 0, 13] [0, 0, 0, 0, 0, 0, 0, 0, 1] [8] ?_
  (repeat (first | refine gos (k := ?_) | refine fun (_ : _ = false) => ?_ | refine ⟨fun (_ : true = true) => ?_, fun h => absurd h (by decide)⟩ | refine gtr (k := ?_)))
  exact ⟨_, rfl, rfl, rfl, trivial⟩
def layX (k v : List UInt8) : List UInt8 := [165] ++ leB 2 k.length ++ leB 4 v.length
def layC (k v : List UInt8) : Int := crcE (crcE (crcE 0 (layX k v)) k) v
def layH (k v : List UInt8) : List UInt8 := layX k v ++ leB 4 (layC k v)
/-- a record's bytes behind its state -/
def layB (k v : List UInt8) : List UInt8 := [layH k v, k, v].flatten
theorem layX_len (k v : List UInt8) : (layX k v).length = 7 := by simp [layX, leB_len]
theorem layH_len (k v : List UInt8) : (layH k v).length = 11 := by simp [layH, layX_len, leB_len]
theorem layB_len (k v : List UInt8) : (layB k v).length = 11 + k.length + v.length := by simp [layB, layH_len]; omega
theorem layC_bound (k v : List UInt8) : 0 ≤ layC k v ∧ layC k v ≤ 4294967295 := crcE_bound _ (crcE_bound _ (crcE_bound _ (by decide)))
/-- three slices: one of the row r, two in zones -/
def catF (r v n z : Nat) (k : List UInt8) (z' : Nat) (w : List UInt8) : Nat → List AV
  | 0 => [.own r v 1 0 n]
  | 1 => [.bs z k]
  | _ => [.bs z' w]
theorem catF_on {P : Nat → Prop} {r v n z : Nat} {k : List UInt8} {z' : Nat} {w : List UInt8} (h : P r) : ∀ a, onAs P (catF r v n z k z' w a)
  | 0 => ⟨h, trivial⟩
  | 1 => ⟨trivial, trivial⟩
  | _ + 2 => ⟨trivial, trivial⟩
theorem concat3 (h k v : List UInt8) (n : Nat) (hn : n = h.length) (hl : [h, k, v].flatten.length ≤ 1000000000) (z z' v0 v1 : Nat) : Spec Tryd.prog 56 [.own 0 v0 1 0 3] [⟨v0, .row 1 (catF 1 v1 n z k z' v) 0 (List.range 3)⟩, ⟨v1, .bytes h⟩]
    (pms (.own 26 6 1 0 [h, k, v].flatten.length) [⟨v0, .row 1 (catF 1 v1 n z k z' v) 0 (List.range 3)⟩, ⟨v1, .bytes h⟩] [(26, ⟨6, .bytes [h, k, v].flatten⟩)]) := by
  subst hn
  refine spec_ro (concat_vc [h, k, v] (by show 3 ≤ 1000; decide) hl 0) trivial ⟨trivial, trivial⟩ (rows := [⟨v0, .row 1 (catF 1 v1 h.length z k z' v) 0 (List.range 3)⟩, ⟨v1, .bytes h⟩]) (args := [.own 0 v0 1 0 3]) (asL_cons (as_sl (l0 := List.range 3) rfl rfl rfl fun i x l hi hli => ?_) asL_nil)
  match i with
  | 0 =>
    cases hi; cases hli
    refine ⟨_, rfl, ?_⟩
    have := as_own (rows := [⟨v0, .row 1 (catF 1 v1 h.length z k z' v) 0 (List.range 3)⟩, ⟨v1, .bytes h⟩]) (r := 1) (ver := v1) (l := h) (off := 0) (n := h.length) rfl (by omega)
    rw [whole] at this
    exact this
  | 1 => cases hi; cases hli; exact ⟨_, rfl, as_bs⟩
  | 2 => cases hi; cases hli; exact ⟨_, rfl, as_bs⟩
  | i + 3 => simp at hli
theorem lay_vc (k v : List UInt8) (hk : k.length ≤ 100000000) (hv : v.length ≤ 100000000) (z z' : Nat) : Spec Tryd.prog 39 [.bs z k, .bs z' v] [] (pms (.own 30 7 1 0 (layB k v).length) [] [(30, ⟨7, .bytes (layB k v)⟩)]) := by
  have hc := layC_bound k v
  have hc1 := crcE_bound (layX k v) (x := 0) (by decide)
  have hc2 := crcE_bound k hc1
  refine spec_entry tbOk Tryd.func39 rfl Tryd.ntmps39 Tryd.results39 ?_
  (repeat (first | refine gos (k := ?_) | refine fun (_ : _ = false) => ?_ | refine ⟨fun (_ : true = true) => ?_, fun h => absurd h (by decide)⟩ | refine gtr (k := ?_)))
  refine cmks (Put_own [165] 1 rfl (by decide) 1 ((k.length : Int) % 18446744073709551616) (by omega) 2 (by decide) ([165] ++ leB 2 k.length) 3 (by rw [show (k.length : Int) % 18446744073709551616 = k.length by omega]; rfl) rfl) Tryd.call52 1 [7, 0, 0, 0, 0, 0, 0, 0, 11] [0, 0, 0, 0, 0, 0, 0, 0, 1] [8] ?_
  (repeat (first | refine gos (k := ?_) | refine fun (_ : _ = false) => ?_ | refine ⟨fun (_ : true = true) => ?_, fun h => absurd h (by decide)⟩ | refine gtr (k := ?_)))
  refine cmks (Put_own ([165] ++ leB 2 k.length) 3 (by simp [leB_len]) (by decide) 6 ((v.length : Int) % 18446744073709551616) (by omega) 4 (by decide) (layX k v) 7 (by rw [show (v.length : Int) % 18446744073709551616 = v.length by omega]; rfl) rfl) Tryd.call52 1 [11, 0, 0, 0, 0, 0, 0, 0, 16] [0, 0, 0, 0, 0, 0, 0, 0, 1] [8] ?_
  (repeat (first | refine gos (k := ?_) | refine fun (_ : _ = false) => ?_ | refine ⟨fun (_ : true = true) => ?_, fun h => absurd h (by decide)⟩ | refine gtr (k := ?_)))
  refine cmks (sum_own (layX k v) 7 (layX_len k v).symm (by rw [layX_len]; decide) 6) Tryd.call53 1 [16] [0] [] ?_
  (repeat (first | refine gos (k := ?_) | refine fun (_ : _ = false) => ?_ | refine ⟨fun (_ : true = true) => ?_, fun h => absurd h (by decide)⟩ | refine gtr (k := ?_)))
  refine cdet (extend_vc k (by omega) z (crcE 0 (layX k v)) hc1) Tryd.call55 [] ?_
  (repeat (first | refine gos (k := ?_) | refine fun (_ : _ = false) => ?_ | refine ⟨fun (_ : true = true) => ?_, fun h => absurd h (by decide)⟩ | refine gtr (k := ?_)))
  refine cdet (extend_vc v (by omega) z' _ hc2) Tryd.call55 [] ?_
  (repeat (first | refine gos (k := ?_) | refine fun (_ : _ = false) => ?_ | refine ⟨fun (_ : true = true) => ?_, fun h => absurd h (by decide)⟩ | refine gtr (k := ?_)))
  refine cmks (Put_own (layX k v) 7 (layX_len k v).symm (by decide) 6 (layC k v % 18446744073709551616) (by omega) 4 (by decide) (layH k v) 11 (by rw [show layC k v % 18446744073709551616 = layC k v by omega]; rfl) rfl) Tryd.call52 1 [16, 0, 0, 0, 0, 0, 0, 0, 26] [0, 0, 0, 0, 0, 0, 0, 0, 1] [8] ?_
  (repeat (first | refine gos (k := ?_) | refine fun (_ : _ = false) => ?_ | refine ⟨fun (_ : true = true) => ?_, fun h => absurd h (by decide)⟩ | refine gtr (k := ?_)))
  refine cmksW (concat3 (layH k v) k v 11 (layH_len k v).symm (by show (layB k v).length ≤ _; rw [layB_len]; omega) z z' 1 6) Tryd.call56 (hr2 := ⟨catF_on rfl, trivial, trivial⟩) 2 [29, 26, 0, 0, 0, 0, 0, 0, 0, 0, 0, 0, 0, 0, 0, 0, 0, 0, 0, 0, 0, 0, 0, 0, 0, 0, 30] [0, 0, 0, 0, 0, 0, 0, 0, 0, 0, 0, 0, 0, 0, 0, 0, 0, 0, 0, 0, 0, 0, 0, 0, 0, 0, 1] [26] ?_ ?_
  · refine ⟨⟨catF_on (by decide), _, rfl, WeakE.row 1 1 rfl⟩, ⟨trivial, _, rfl, WeakE.refl _⟩, trivial⟩
  (repeat (first | refine gos (k := ?_) | refine fun (_ : _ = false) => ?_ | refine ⟨fun (_ : true = true) => ?_, fun h => absurd h (by decide)⟩ | refine gtr (k := ?_)))
  exact ⟨_, rfl, rfl, rfl, trivial⟩
end Go.Proofs.YtddocchgikaahaaDoor
