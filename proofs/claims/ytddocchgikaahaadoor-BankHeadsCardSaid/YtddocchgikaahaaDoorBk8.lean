/- Walks of bank: Ready, Head, Format. Conditions: none. -/
import Derived.Test.YtddocchgikaahaaDoorBk7
namespace Go.Proofs.YtddocchgikaahaaDoor
open Go.RowKit
set_option linter.unusedVariables false
set_option linter.unusedSimpArgs false
set_option maxRecDepth 100000
theorem progF_spec : ∀ (m : List UInt8) (k : Nat) (c : List UInt8) (left w : Int), I64 left → I64 (progF m k c left w).2.2.1 ∧ w ≤ (progF m k c left w).2.2.2.2 ∧ (progF m k c left w).2.2.2.2 ≤ w + m.length
  | [], _, _, _, _, h => ⟨h, by simp [progF], by simp [progF]⟩
  | b :: m, k, c, left, w, h => by
    rw [progF]
    split
    · refine ⟨?_, ?_, ?_⟩
      · simp only [I64] at *; omega
      · simp
      · simp only [List.length_cons]; omega
    · obtain ⟨h1, h2, h3⟩ := progF_spec m (k + 1) (c.set k (c.getD k 0 &&& b)) (if 0 < left then left - 1 else left) (w + 1) (by simp only [I64] at *; split <;> omega)
      refine ⟨h1, by omega, ?_⟩
      simp only [List.length_cons]
      omega
/-- a flash as it may be: what stays, and how many writes were done at most -/
structure Goes (B : Int) (n k : Nat) (s : FlS) : Prop where
  len : n ≤ 4194304
  kk : 0 < k ∧ k ≤ 65536
  ar : I64 s.ar
  pt : 0 ≤ s.pt ∧ I64 s.pt
  wr : 0 ≤ s.wr ∧ s.wr ≤ B
  l : s.l.length = n
  k : s.k = k
theorem Goes.mono {B B' : Int} {n k : Nat} {s : FlS} (h : Goes B n k s) (hB : B ≤ B') : Goes B' n k s :=
  ⟨h.len, h.kk, h.ar, h.pt, ⟨h.wr.1, by have := h.wr.2; omega⟩, h.l, h.k⟩
theorem Goes.prog {B : Int} {n k : Nat} {s : FlS} (h : Goes B n k s) (a : Int) (b : List UInt8) : Goes (B + b.length) n k (s.prog a b).2 := by
  unfold FlS.prog
  split
  · exact h.mono (by omega)
  · split
    · obtain ⟨h1, h2, h3⟩ := progF_spec b a.toNat s.l s.ar s.wr h.ar
      have := h.wr
      refine ⟨h.len, h.kk, h1, h.pt, ⟨?_, ?_⟩, ?_, h.k⟩
      · simp only; omega
      · simp only; omega
      · simp only [progF_length]; exact h.l
    · exact h.mono (by omega)
theorem Goes.erase {B : Int} {n k : Nat} {s : FlS} (h : Goes B n k s) (a : Int) : Goes (B + 1) n k (s.erase a).2 := by
  unfold FlS.erase
  split
  · exact h.mono (by omega)
  · split
    · have h0 := h.ar
      have h1 := h.wr
      have hl : (if s.goes = true then fillN s.l (a.toNat * s.k) (min s.pt (s.k : Int)).toNat else fillN s.l (a.toNat * s.k) s.k).length = s.l.length := by split <;> simp [fillN_length]
      refine ⟨h.len, h.kk, ?_, h.pt, ⟨?_, ?_⟩, ?_, h.k⟩
      · simp only [I64] at *; split <;> omega
      · simp only; split <;> omega
      · simp only; split <;> omega
      · simp only [hl]; exact h.l
    · exact h.mono (by omega)
theorem Goes.arm {B : Int} {n k : Nat} {s : FlS} (h : Goes B n k s) (x y : Int) (hx : I64 x) (hy : I64 y) : Goes B n k (s.arm x y).2 := by
  unfold FlS.arm
  split
  · exact h
  · split
    · exact h
    · exact ⟨h.len, h.kk, hx, ⟨by simp only; omega, hy⟩, h.wr, h.l, h.k⟩
theorem Goes.on {B : Int} {n k : Nat} {s : FlS} (h : Goes B n k s) : Goes B n k s.on.2 := by
  unfold FlS.on
  split
  · exact ⟨h.len, h.kk, by show I64 0; unfold I64; omega, h.pt, h.wr, h.l, h.k⟩
  · exact h
/-- where a bank lies on a flash of n bytes in sectors of k -/
structure Lies (n k a c : Nat) : Prop where
  c1 : 1 ≤ c
  big : 64 ≤ c * k
  fit : a * k + c * k ≤ n
  ac : a ≤ 4194304 ∧ c ≤ 4194304
theorem Goes.bok {B : Int} {n k a c : Nat} {s : FlS} (h : Goes B n k s) (p : Lies n k a c) : BOk s a c := by
  have := h.len; have h1 := h.kk; have h2 := h.l; have h3 := h.k; have h4 := p.fit; have h5 := p.ac
  refine ⟨by omega, by rw [h3]; exact h1, by rw [h3, h2]; exact h4, by omega⟩
theorem bprog_own (s : FlS) (a c : Nat) (h : BOk s a c) (at_ : Int) (ha : I64 (a * s.k + at_)) (m : List UInt8) (n : Nat) (hn : n = m.length) (hm' : m.length ≤ 140737488355328) (hA2 : I64 s.ar) (hA5 : 0 ≤ s.wr ∧ s.wr + m.length < 9223372036854775807) (vb v0 v1 v2 : Nat) : Spec Tryd.prog 35 [.ref 0 vb 3 0 0, .val (.int .i64 at_), .own 3 v2 1 0 n] [⟨vb, .obj [.ref 1 v0 6 0 0, .val (.int .i64 (a : Int)), .val (.int .i64 (c : Int))]⟩, ⟨v0, .obj [.own 2 v1 1 0 s.l.length, .val (.int .i64 (s.k : Int)), .val (.int .i64 s.ar), .val (.int .i64 s.pt), .val (.bool s.dd), .val (.int .i64 s.wr)]⟩, ⟨v1, .bytes s.l⟩, ⟨v2, .bytes m⟩]
   (pms (.val (.int .i64 (s.prog ((a : Int) * s.k + at_) m).1)) [⟨vb, .obj [.ref 1 v0 6 0 0, .val (.int .i64 (a : Int)), .val (.int .i64 (c : Int))]⟩, ⟨v0, .obj [.own 2 v1 1 0 (s.prog ((a : Int) * s.k + at_) m).2.l.length, .val (.int .i64 ((s.prog ((a : Int) * s.k + at_) m).2.k : Int)), .val (.int .i64 (s.prog ((a : Int) * s.k + at_) m).2.ar), .val (.int .i64 (s.prog ((a : Int) * s.k + at_) m).2.pt), .val (.bool (s.prog ((a : Int) * s.k + at_) m).2.dd), .val (.int .i64 (s.prog ((a : Int) * s.k + at_) m).2.wr)]⟩, ⟨v1, .bytes (s.prog ((a : Int) * s.k + at_) m).2.l⟩, ⟨v2, .bytes m⟩] []) := by
  subst hn
  have e := whole m
  have h := spec_rx (spec_pms (bprog_vc s a c h at_ ha ((m.drop 0).take m.length) (by rw [e]; exact hm') hA2 (by rw [e]; exact hA5) 0 vb v0 v1)) (R := [⟨v2, .bytes m⟩]) (args := [.ref 0 vb 3 0 0, .val (.int .i64 at_), .own 3 v2 1 0 m.length])
    trivial ⟨⟨trivial, trivial, trivial, trivial⟩, ⟨trivial, trivial, trivial, trivial, trivial, trivial, trivial⟩, trivial, trivial⟩ ⟨⟨(by decide : 1 < 3), trivial, trivial, trivial⟩, ⟨(by decide : 2 < 3), trivial, trivial, trivial, trivial, trivial, trivial⟩, trivial, trivial⟩ ⟨⟨trivial, trivial, trivial, trivial⟩, ⟨trivial, trivial, trivial, trivial, trivial, trivial, trivial⟩, trivial, trivial⟩ rfl trivial trivial
    (asX_cons (aX_same trivial (by decide : 0 < 3)) (asX_cons (aX_same trivial trivial) (asX_cons (aX_own (q := 0) (l := m) rfl (by omega)) asX_nil)))
  rw [e] at h
  exact h
theorem ready_vc {W : Int} {n k : Nat} (s : FlS) (a c : Nat) (g : Goes W n k s) (hW : W ≤ 9000000000000000000) (p : Lies n k a c) (vb v0 v1 : Nat) : Spec Tryd.prog 13 [.ref 0 vb 3 0 0] [⟨vb, .obj [.ref 1 v0 6 0 0, .val (.int .i64 (a : Int)), .val (.int .i64 (c : Int))]⟩, ⟨v0, .obj [.own 2 v1 1 0 s.l.length, .val (.int .i64 (s.k : Int)), .val (.int .i64 s.ar), .val (.int .i64 s.pt), .val (.bool s.dd), .val (.int .i64 s.wr)]⟩, ⟨v1, .bytes s.l⟩]
   (pms (.val (.int .i64 (s.prog ((a : Int) * s.k + 12) [254]).1)) [⟨vb, .obj [.ref 1 v0 6 0 0, .val (.int .i64 (a : Int)), .val (.int .i64 (c : Int))]⟩, ⟨v0, .obj [.own 2 v1 1 0 (s.prog ((a : Int) * s.k + 12) [254]).2.l.length, .val (.int .i64 ((s.prog ((a : Int) * s.k + 12) [254]).2.k : Int)), .val (.int .i64 (s.prog ((a : Int) * s.k + 12) [254]).2.ar), .val (.int .i64 (s.prog ((a : Int) * s.k + 12) [254]).2.pt), .val (.bool (s.prog ((a : Int) * s.k + 12) [254]).2.dd), .val (.int .i64 (s.prog ((a : Int) * s.k + 12) [254]).2.wr)]⟩, ⟨v1, .bytes (s.prog ((a : Int) * s.k + 12) [254]).2.l⟩] []) := by
  have h := g.bok p
  have hi := h.int
  have hl := h.len
  have hw := g.wr
  refine spec_entry tbOk Tryd.func13 rfl Tryd.ntmps13 Tryd.results13 ?_
  (repeat (first | refine gos (k := ?_) | refine fun (_ : _ = false) => ?_ | refine ⟨fun (_ : true = true) => ?_, fun h => absurd h (by decide)⟩ | refine gtr (k := ?_)))
  refine cmks (bprog_own s a c h 12 (by unfold I64; omega) [254] 1 rfl (by decide) g.ar ⟨by omega, by show s.wr + 1 < _; omega⟩ vb v0 v1 1) Tryd.call35 4 [0, 1, 2, 9] [0, 0, 0, 0] [] ?_
  (repeat (first | refine gos (k := ?_) | refine fun (_ : _ = false) => ?_ | refine ⟨fun (_ : true = true) => ?_, fun h => absurd h (by decide)⟩ | refine gtr (k := ?_)))
  exact ⟨_, rfl, rfl, trivial⟩
theorem read_cases {W : Int} {n k a c : Nat} {s : FlS} (g : Goes W n k s) (p : Lies n k a c) (m : Nat) (hm : m ≤ c * k) : (s.dd = true ∧ s.read ((a : Int) * s.k) m = (6, [])) ∨ (s.dd = false ∧ s.read ((a : Int) * s.k) m = (0, (s.l.drop (a * k)).take m) ∧ ((s.l.drop (a * k)).take m).length = m) := by
  have h1 := p.fit; have h2 := g.l; have h3 := g.k
  unfold FlS.read
  cases s.dd with
  | true => exact .inl ⟨rfl, by simp⟩
  | false =>
    right
    have e1 : ((a : Int) * s.k) = ((a * k : Nat) : Int) := by rw [h3]; push_cast; rfl
    rw [e1]
    have h4 : 0 ≤ ((a * k : Nat) : Int) ∧ 0 ≤ (m : Int) ∧ ((a * k : Nat) : Int) + (m : Int) ≤ s.l.length := by omega
    simp only [if_pos h4, Bool.false_eq_true, if_false, Int.toNat_natCast]
    refine ⟨trivial, trivial, ?_⟩
    rw [List.length_take, List.length_drop]; omega
/-- what Head tells -/
def FlS.head (s : FlS) (a : Nat) : Int × Bool × Int := if s.dd then (0, false, 6) else if ((s.l.drop (a * s.k)).take 16).take 12 = headB (numB ((((s.l.drop (a * s.k)).take 16).drop 4).take 4)) then ((numB ((((s.l.drop (a * s.k)).take 16).drop 4).take 4) : Int), decide (((((s.l.drop (a * s.k)).take 16).getD 12 0).toNat : Int) = 254), 0) else (0, false, 0)
theorem number_own (l : List UInt8) (L : Nat) (hL : L = l.length) (hb : l.length ≤ 140737488355328) (v : Nat) (at_ n : Int) (ha : I64 at_) (hn : n = 2 ∨ n = 4) (hw : 0 ≤ at_ ∧ at_ + n ≤ l.length) : Spec Tryd.prog 42 [.own 0 v 1 0 L, .val (.int .i64 at_), .val (.int .i64 n)] [⟨v, .bytes l⟩]
   (pms (.val (.int .i64 (numB ((l.drop at_.toNat).take n.toNat)))) [⟨v, .bytes l⟩] []) := by
  subst hL
  have h := own1 (l := l) 0 l.length (by omega) (spec_pms (number_vc ((l.drop 0).take l.length) (by rw [whole]; exact hb) 0 at_ n ha hn (by rw [whole]; exact hw))) trivial trivial (fun _ => asL_cons as_val (asL_cons as_val asL_nil)) v
  rw [whole] at h
  exact h
theorem equal_own2 (a : List UInt8) (n m : Nat) (hn : n ≤ a.length) (b : List UInt8) (hm' : m = b.length) (v0 v1 : Nat) : Spec Tryd.prog 43 [.own 0 v0 1 0 n, .own 1 v1 1 0 m] [⟨v0, .bytes a⟩, ⟨v1, .bytes b⟩] (pms (.val (.bool (decide (a.take n = b)))) [⟨v0, .bytes a⟩, ⟨v1, .bytes b⟩] []) := by
  subst hm'
  have := spec_ro (spec_pms (equal_vc ((a.drop 0).take n) ((b.drop 0).take b.length) 0 0)) trivial trivial (rows := [⟨v0, .bytes a⟩, ⟨v1, .bytes b⟩]) (args := [.own 0 v0 1 0 n, .own 1 v1 1 0 b.length]) (asL_cons (as_own (l := a) rfl (by omega)) (asL_cons (as_own (l := b) rfl (by omega)) asL_nil))
  rw [whole, List.drop_zero] at this
  exact this
theorem bhead_vc {W : Int} {n k : Nat} (s : FlS) (a c : Nat) (g : Goes W n k s) (p : Lies n k a c) (vb v0 v1 : Nat) : Spec Tryd.prog 19 [.ref 0 vb 3 0 0] [⟨vb, .obj [.ref 1 v0 6 0 0, .val (.int .i64 (a : Int)), .val (.int .i64 (c : Int))]⟩, ⟨v0, .obj [.own 2 v1 1 0 s.l.length, .val (.int .i64 (s.k : Int)), .val (.int .i64 s.ar), .val (.int .i64 s.pt), .val (.bool s.dd), .val (.int .i64 s.wr)]⟩, ⟨v1, .bytes s.l⟩]
   (pms (.tup [.val (.int .u32 (s.head a).1), .val (.bool (s.head a).2.1), .val (.int .i64 (s.head a).2.2)]) [⟨vb, .obj [.ref 1 v0 6 0 0, .val (.int .i64 (a : Int)), .val (.int .i64 (c : Int))]⟩, ⟨v0, .obj [.own 2 v1 1 0 s.l.length, .val (.int .i64 (s.k : Int)), .val (.int .i64 s.ar), .val (.int .i64 s.pt), .val (.bool s.dd), .val (.int .i64 s.wr)]⟩, ⟨v1, .bytes s.l⟩] []) := by
  have h := g.bok p
  have hl := h.len
  have hb := p.big
  refine spec_entry tbOk Tryd.func19 rfl Tryd.ntmps19 Tryd.results19 ?_
  (repeat (first | refine gos (k := ?_) | refine fun (_ : _ = false) => ?_ | refine ⟨fun (_ : true = true) => ?_, fun h => absurd h (by decide)⟩ | refine gtr (k := ?_)))
  refine cmks (bread_vc s a c h 16 (by unfold I64; omega) vb v0 v1) Tryd.call41 3 [0, 1, 2, 0, 0, 0, 0, 0, 0, 0, 0, 0, 0, 0, 0, 0, 0, 0, 0, 0, 0, 0, 0, 0, 13] [0, 0, 0, 0, 0, 0, 0, 0, 0, 0, 0, 0, 0, 0, 0, 0, 0, 0, 0, 0, 0, 0, 0, 0, 1] [24] ?_
  rcases read_cases g p 16 (by omega) with ⟨hd, hr⟩ | ⟨hd, hr, hx⟩
  · rw [show ((16 : Nat) : Int) = 16 from rfl] at hr
    rw [hr]
    (repeat (first | refine gos (k := ?_) | refine fun (_ : _ = false) => ?_ | refine ⟨fun (_ : true = true) => ?_, fun h => absurd h (by decide)⟩ | refine gtr (k := ?_)))
    refine ⟨_, ?_, rfl, trivial⟩
    unfold FlS.head; rw [hd]; rfl
  rw [show ((16 : Nat) : Int) = 16 from rfl] at hr
  rw [hr]
  have hx2 : ((s.l.drop (a * s.k)).take 16) = ((s.l.drop (a * k)).take 16) := by rw [g.k]
  unfold FlS.head
  rw [hd, hx2]
  generalize ((s.l.drop (a * k)).take 16) = x at hx hr
  (repeat (first | refine gos (k := ?_) | refine fun (_ : _ = false) => ?_ | refine ⟨fun (_ : true = true) => ?_, fun h => absurd h (by decide)⟩ | refine gtr (k := ?_)))
  refine cmks (number_own x x.length rfl (by omega) 5 4 4 (by unfold I64; omega) (.inr rfl) (by omega)) Tryd.call42 1 [13] [0] [] ?_
  have hn := numB_lt ((x.drop 4).take 4)
  have hn2 : ((x.drop 4).take 4).length = 4 := by rw [List.length_take, List.length_drop]; omega
  rw [hn2] at hn
  (repeat (first | refine gos (k := ?_) | refine fun (_ : _ = false) => ?_ | refine ⟨fun (_ : true = true) => ?_, fun h => absurd h (by decide)⟩ | refine gtr (k := ?_)))
  (refine sts (k := ?_))
  refine draw_of (p := 3) tbOk hm [0, 1, 0, 4, 15, 31] [⟨0, false, false, []⟩, ⟨1, true, false, [21, 22, 23, 24]⟩, ⟨2, false, false, []⟩, ⟨3, true, false, [19, 20, 23, 24]⟩, ⟨4, true, false, [24]⟩, ⟨5, false, false, []⟩] (by kernel_rfl) ?_
  (repeat (first | refine gos (k := ?_) | refine fun (_ : _ = false) => ?_ | refine ⟨fun (_ : true = true) => ?_, fun h => absurd h (by decide)⟩ | refine gtr (k := ?_)))
  have hG : ((numB (List.take (Int.toNat 4) (List.drop (Int.toNat 4) x)) : Nat) : Int) % 4294967296 = (numB ((x.drop 4).take 4) : Nat) := by
    show ((numB (List.take 4 (List.drop 4 x)) : Nat) : Int) % 4294967296 = _
    omega
  rw [hG]
  generalize hGG : numB ((x.drop 4).take 4) = G at hn
  refine cmks (head_vc (G : Int) (by omega)) Tryd.call36 0 [0, 0, 0, 0, 0, 0, 0, 0, 0, 0, 0, 0, 0, 25] [0, 0, 0, 0, 0, 0, 0, 0, 0, 0, 0, 0, 0, 1] [13] ?_
  (repeat (first | refine gos (k := ?_) | refine fun (_ : _ = false) => ?_ | refine ⟨fun (_ : true = true) => ?_, fun h => absurd h (by decide)⟩ | refine gtr (k := ?_)))
  refine cmks (equal_own2 x 12 12 (by omega) (headB G) (headB_len _).symm 5 7) Tryd.call43 2 [13, 25] [0, 0] [] ?_
  (repeat (first | refine gos (k := ?_) | refine fun (_ : _ = false) => ?_ | refine ⟨fun (_ : true = true) => ?_, fun h => absurd h (by decide)⟩ | refine gtr (k := ?_)))
  refine ⟨fun h => ?_, fun h => ?_⟩
  · have hne : ¬ x.take 12 = headB G := by simpa using h
    (repeat (first | refine gos (k := ?_) | refine fun (_ : _ = false) => ?_ | refine ⟨fun (_ : true = true) => ?_, fun h => absurd h (by decide)⟩ | refine gtr (k := ?_)))
    rw [if_neg hne]
    exact ⟨_, rfl, rfl, trivial⟩
  · have he : x.take 12 = headB G := by simpa using h
    (repeat (first | refine gos (k := ?_) | refine fun (_ : _ = false) => ?_ | refine ⟨fun (_ : true = true) => ?_, fun h => absurd h (by decide)⟩ | refine gtr (k := ?_)))
    (refine sts (k := ?_))
    refine draw_of (p := 3) tbOk hm [0, 0, 2, 6, 14, 1, 63, 127] [⟨0, false, false, []⟩, ⟨1, false, false, []⟩, ⟨2, true, false, [25, 28, 29, 2, 3, 4]⟩, ⟨3, true, false, [25, 29, 2, 3, 4]⟩, ⟨4, false, false, []⟩, ⟨5, false, false, []⟩, ⟨6, false, false, []⟩, ⟨7, false, false, []⟩] (by kernel_rfl) ?_
    (repeat (first | refine gos (k := ?_) | refine fun (_ : _ = false) => ?_ | refine ⟨fun (_ : true = true) => ?_, fun h => absurd h (by decide)⟩ | refine gtr (k := ?_)))
    rw [if_pos he]
    exact ⟨_, rfl, rfl, trivial⟩
/-- the sectors are erased, one behind the other, as long as it goes -/
def FlS.wipe (s : FlS) (a : Nat) : Nat → Int × FlS
  | 0 => (0, s)
  | m + 1 => if (s.wipe a m).1 = 0 then (s.wipe a m).2.erase ((a : Int) + m) else s.wipe a m
def FlS.format (s : FlS) (a c : Nat) (g : Int) : Int × FlS := if (s.wipe a c).1 = 0 then (s.wipe a c).2.prog ((a : Int) * s.k) (headB g) else s.wipe a c
theorem wipe_stop (s : FlS) (a : Nat) {m : Nat} (h : (s.wipe a m).1 ≠ 0) : ∀ d, s.wipe a (m + d) = s.wipe a m
  | 0 => rfl
  | d + 1 => by
    have ih := wipe_stop s a h d
    rw [← Nat.add_assoc, FlS.wipe, ih, if_neg h]
theorem Goes.wipe {B : Int} {n k : Nat} {s : FlS} (h : Goes B n k s) (a : Nat) : ∀ m : Nat, Goes (B + m) n k (s.wipe a m).2
  | 0 => h.mono (by omega)
  | m + 1 => by
    have ih := h.wipe a m
    rw [FlS.wipe]
    split
    · exact (ih.erase _).mono (by omega)
    · exact ih.mono (by omega)
theorem format_vc {W : Int} {n k : Nat} (s : FlS) (a c : Nat) (g : Goes W n k s) (hW : W ≤ 9000000000000000000) (p : Lies n k a c) (gen : Int) (hgen : 0 ≤ gen ∧ gen ≤ 4294967295) (vb v0 v1 : Nat) : Spec Tryd.prog 12 [.ref 0 vb 3 0 0, .val (.int .u32 gen)] [⟨vb, .obj [.ref 1 v0 6 0 0, .val (.int .i64 (a : Int)), .val (.int .i64 (c : Int))]⟩, ⟨v0, .obj [.own 2 v1 1 0 s.l.length, .val (.int .i64 (s.k : Int)), .val (.int .i64 s.ar), .val (.int .i64 s.pt), .val (.bool s.dd), .val (.int .i64 s.wr)]⟩, ⟨v1, .bytes s.l⟩]
   (pms (.val (.int .i64 (s.format a c gen).1)) [⟨vb, .obj [.ref 1 v0 6 0 0, .val (.int .i64 (a : Int)), .val (.int .i64 (c : Int))]⟩, ⟨v0, .obj [.own 2 v1 1 0 (s.format a c gen).2.l.length, .val (.int .i64 ((s.format a c gen).2.k : Int)), .val (.int .i64 (s.format a c gen).2.ar), .val (.int .i64 (s.format a c gen).2.pt), .val (.bool (s.format a c gen).2.dd), .val (.int .i64 (s.format a c gen).2.wr)]⟩, ⟨v1, .bytes (s.format a c gen).2.l⟩] []) := by
  have hac := p.ac
  refine spec_entry tbOk Tryd.func12 rfl Tryd.ntmps12 Tryd.results12 ?_
  (repeat (first | refine gos (k := ?_) | refine fun (_ : _ = false) => ?_ | refine ⟨fun (_ : true = true) => ?_, fun h => absurd h (by decide)⟩ | refine gtr (k := ?_)))
  (refine sts (k := ?_))
  conv => whnf
  refine loop_at (fun i : Nat => i ≤ c ∧ (s.wipe a i).1 = 0) (fun i => c - i) 3 [4, 5, 6, 13, 14, 15, 16, 17, 18, 19, 20, 21, 22, 23, 24, 25, 26, 27, 28, 29, 30] (fun i => [(13, .val (.int .i64 i))]) (fun i => [(0, ⟨vb, .obj [.ref 1 v0 6 0 0, .val (.int .i64 (a : Int)), .val (.int .i64 (c : Int))]⟩), (1, ⟨v0, .obj [.own 2 v1 1 0 (s.wipe a i).2.l.length, .val (.int .i64 ((s.wipe a i).2.k : Int)), .val (.int .i64 (s.wipe a i).2.ar), .val (.int .i64 (s.wipe a i).2.pt), .val (.bool (s.wipe a i).2.dd), .val (.int .i64 (s.wipe a i).2.wr)]⟩), (2, ⟨v1, .bytes (s.wipe a i).2.l⟩)]) 0 ⟨Nat.zero_le _, rfl⟩ ?_ ?_ ?_
  · ((try dsimp only [lpS, anyT, putT, setL]); (repeat (refine And.intro (by first | exact trivial | exact rfl) ?_)); (first | exact trivial | skip))
  · ((try dsimp only [lpS, deadH, putH, setL, Nat.reduceAdd, Nat.zero_add]); (repeat (refine And.intro (by first | exact rfl | exact trivial) ?_)); (first | exact trivial | skip))
  · rintro i v ⟨h1, h2⟩
    (dsimp only [lpS, anyT, putT, setL, deadH, putH, Nat.reduceAdd, Nat.zero_add])
    (repeat (first | refine gos (k := ?_) | refine fun (_ : _ = false) => ?_ | refine ⟨fun (_ : true = true) => ?_, fun h => absurd h (by decide)⟩ | refine gtr (k := ?_)))
    have hS : s.wipe a (i + 1) = (s.wipe a i).2.erase ((a : Int) + i) := by rw [FlS.wipe, if_pos h2]
    have gi := g.wipe a i
    have gi1 := g.wipe a (i + 1)
    have hwi := gi.wr
    refine ⟨fun h => ?_, fun h => ?_⟩
    · have hi : i < c := by have := of_decide_eq_true h; omega
      (repeat (first | refine gos (k := ?_) | refine fun (_ : _ = false) => ?_ | refine ⟨fun (_ : true = true) => ?_, fun h => absurd h (by decide)⟩ | refine gtr (k := ?_)))
      (refine sts (k := ?_))
      refine draw_of (p := 3) tbOk hm [0, 1, 3, 7, 0, 16, 48, 112, 0, 496, 1023, 2047] [⟨0, false, false, []⟩, ⟨1, true, false, [18, 19, 20, 21, 22, 23, 24, 25, 26, 6]⟩, ⟨2, true, false, [19, 20, 21, 22, 23, 24, 25, 26, 6]⟩, ⟨3, true, false, [20, 21, 22, 23, 24, 25, 26, 6]⟩, ⟨4, false, false, []⟩, ⟨5, true, false, [16, 17, 18, 19, 22, 23, 24, 25, 26, 6]⟩, ⟨6, true, false, [16, 17, 18, 19, 23, 24, 25, 26, 6]⟩, ⟨7, true, false, [16, 17, 18, 19, 24, 25, 26, 6]⟩, ⟨8, false, false, []⟩, ⟨9, false, false, []⟩, ⟨10, true, true, [6]⟩, ⟨11, false, false, []⟩] (by kernel_rfl) ?_
      (repeat (first | refine gos (k := ?_) | refine fun (_ : _ = false) => ?_ | refine ⟨fun (_ : true = true) => ?_, fun h => absurd h (by decide)⟩ | refine gtr (k := ?_)))
      refine cdet (spec_erase (s.wipe a i).2 (by have := gi.l; have := gi.len; omega) (by rw [gi.k]; exact gi.kk) ((a : Int) + i) (by unfold I64; omega) gi.ar gi.pt ⟨hwi.1, by omega⟩ v0 v1) Tryd.call34 [1, 2] ?_
      rw [← hS]
      (repeat (first | refine gos (k := ?_) | refine fun (_ : _ = false) => ?_ | refine ⟨fun (_ : true = true) => ?_, fun h => absurd h (by decide)⟩ | refine gtr (k := ?_)))
      refine ⟨fun h => ?_, fun h => ?_⟩
      · have hne : (s.wipe a (i + 1)).1 ≠ 0 := by simpa using h
        (repeat (first | refine gos (k := ?_) | refine fun (_ : _ = false) => ?_ | refine ⟨fun (_ : true = true) => ?_, fun h => absurd h (by decide)⟩ | refine gtr (k := ?_)))
        have hst := wipe_stop s a hne (c - (i + 1))
        rw [show i + 1 + (c - (i + 1)) = c by omega] at hst
        have hf : s.format a c gen = s.wipe a (i + 1) := by unfold FlS.format; rw [hst, if_neg hne]
        rw [hf]
        exact ⟨_, rfl, rfl, trivial⟩
      · have he : (s.wipe a (i + 1)).1 = 0 := by simpa using h
        (repeat (first | refine gos (k := ?_) | refine fun (_ : _ = false) => ?_ | refine ⟨fun (_ : true = true) => ?_, fun h => absurd h (by decide)⟩ | refine gtr (k := ?_)))
        refine back_at (i + 1) ⟨hi, he⟩ (by show c - (i + 1) < c - i; omega) ?_ ?_
        · ((try dsimp only [lpS, anyT, putT, setL]); (repeat (refine And.intro (by first | exact trivial | exact rfl) ?_)); (first | exact trivial | skip))
        · ((try dsimp only [lpS, deadH, putH, setL, Nat.reduceAdd, Nat.zero_add]); (repeat (refine And.intro (by first | exact rfl | exact trivial) ?_)); (first | exact trivial | skip))
    · have hi : i = c := by have := of_decide_eq_false h; omega
      subst hi
      (repeat (first | refine gos (k := ?_) | refine fun (_ : _ = false) => ?_ | refine ⟨fun (_ : true = true) => ?_, fun h => absurd h (by decide)⟩ | refine gtr (k := ?_)))
      refine cmks (head_vc gen hgen) Tryd.call36 0 [0, 0, 0, 0, 0, 0, 0, 0, 0, 0, 0, 0, 0, 36] [0, 0, 0, 0, 0, 0, 0, 0, 0, 0, 0, 0, 0, 1] [13] ?_
      (repeat (first | refine gos (k := ?_) | refine fun (_ : _ = false) => ?_ | refine ⟨fun (_ : true = true) => ?_, fun h => absurd h (by decide)⟩ | refine gtr (k := ?_)))
      have hbk := gi.bok p
      have hbi := hbk.int
      have hbl := hbk.len
      refine cmks (bprog_own (s.wipe a i).2 a i hbk 0 (by unfold I64; omega) (headB gen) 12 (headB_len _).symm (by rw [headB_len]; decide) gi.ar ⟨hwi.1, by rw [headB_len]; omega⟩ vb v0 v1 7) Tryd.call35 4 [0, 1, 2, 36] [0, 0, 0, 0] [] ?_
      (repeat (first | refine gos (k := ?_) | refine fun (_ : _ = false) => ?_ | refine ⟨fun (_ : true = true) => ?_, fun h => absurd h (by decide)⟩ | refine gtr (k := ?_)))
      have hf : s.format a i gen = (s.wipe a i).2.prog ((a : Int) * (s.wipe a i).2.k + 0) (headB gen) := by
        unfold FlS.format; rw [if_pos h2, Int.add_zero, gi.k, g.k]
      rw [hf]
      exact ⟨_, rfl, rfl, trivial⟩
end Go.Proofs.YtddocchgikaahaaDoor
