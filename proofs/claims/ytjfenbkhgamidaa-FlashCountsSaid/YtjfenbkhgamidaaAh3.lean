/- Walks of lintellaw07: behind; how the flash goes through what is done. Conditions: none. -/
import Derived.Test.YtjfenbkhgamidaaAh2
namespace Go.Proofs.Ytjfenbkhgamidaa
open Go.RowKit
set_option linter.unusedVariables false
set_option linter.unusedSimpArgs false
set_option maxRecDepth 100000
theorem progF_spec : ∀ (m : List UInt8) (k : Nat) (c : List UInt8) (left w : Int), I64 left → I64 (progF m k c left w).2.2.1 ∧ w ≤ (progF m k c left w).2.2.2.2 ∧ (progF m k c left w).2.2.2.2 ≤ w + m.length
  | [], _, _, _, _, h => ⟨h, by simp [progF], by simp [progF]⟩
  | b :: m, k, c, left, w, h => by
    rw [progF]
    split
    · refine ⟨?_, ?_, ?_⟩
      · simp only [I64] at *; omega
      · simp
      · simp only [List.length_cons]; omega
    · obtain ⟨h1, h2, h3⟩ := progF_spec m (k + 1) (c.set k (c.getD k 0 &&& b)) (if 0 < left then left - 1 else left) (w + 1) (by simp only [I64] at *; split <;> omega)
      refine ⟨h1, by omega, ?_⟩
      simp only [List.length_cons]
      omega
/-- what stays, and how many writes were done at most -/
structure Goes (B : Int) (n k : Nat) (s : FS) : Prop where
  ok : FSok B s
  l : s.l.length = n
  k : s.k = k
theorem Goes.mono {B B' : Int} {n k : Nat} {s : FS} (h : Goes B n k s) (hB : B ≤ B') : Goes B' n k s :=
  ⟨⟨h.ok.len, h.ok.k, h.ok.ar, h.ok.pt, h.ok.wr.1, by have := h.ok.wr.2; omega⟩, h.l, h.k⟩
theorem Goes.prog {B : Int} {n k : Nat} {s : FS} (h : Goes B n k s) (a : Int) (b : List UInt8) : Goes (B + b.length) n k (s.prog a b).2 := by
  unfold FS.prog
  split
  · exact h.mono (by omega)
  · split
    · obtain ⟨h1, h2, h3⟩ := progF_spec b a.toNat s.l s.ar s.wr h.ok.ar
      refine ⟨⟨?_, h.ok.k, h1, h.ok.pt, ?_, ?_⟩, ?_, h.k⟩
      · simp only [progF_length]; exact h.ok.len
      · have := h.ok.wr; simp only; omega
      · have := h.ok.wr; simp only; omega
      · simp only [progF_length]; exact h.l
    · exact h.mono (by omega)
theorem Goes.erase {B : Int} {n k : Nat} {s : FS} (h : Goes B n k s) (a : Int) : Goes (B + 1) n k (s.erase a).2 := by
  unfold FS.erase
  split
  · exact h.mono (by omega)
  · split
    · have h0 := h.ok.ar
      have h1 := h.ok.wr
      have hl : (if s.goes = true then fillN s.l (a.toNat * s.k) (min s.pt (s.k : Int)).toNat else fillN s.l (a.toNat * s.k) s.k).length = s.l.length := by split <;> simp [fillN_length]
      refine ⟨⟨?_, h.ok.k, ?_, h.ok.pt, ?_, ?_⟩, ?_, h.k⟩
      · simp only [hl]; exact h.ok.len
      · simp only [I64] at *; split <;> omega
      · simp only; split <;> omega
      · simp only; split <;> omega
      · simp only [hl]; exact h.l
    · exact h.mono (by omega)
theorem Goes.arm {B : Int} {n k : Nat} {s : FS} (h : Goes B n k s) (x y : Int) (hx : I64 x) (hy : I64 y) : Goes B n k (s.arm x y).2 := by
  unfold FS.arm
  split
  · exact h
  · split
    · exact h
    · rename_i _ h1
      exact ⟨⟨h.ok.len, h.ok.k, hx, ⟨by simp only; omega, hy⟩, h.ok.wr⟩, h.l, h.k⟩
theorem Goes.on {B : Int} {n k : Nat} {s : FS} (h : Goes B n k s) : Goes B n k s.on.2 := by
  unfold FS.on
  split
  · exact ⟨⟨h.ok.len, h.ok.k, by simp only [I64]; omega, h.ok.pt, h.ok.wr⟩, h.l, h.k⟩
  · exact h
theorem Goes.does {B : Int} {n k : Nat} {s : FS} (h : Goes B n k s) (o : OpR) (ho : OpOk o) : Goes (B + o.b.length + 1) n k (s.does o.kind o.at' o.n o.b) := by
  unfold FS.does
  split
  · exact h.mono (by omega)
  · split
    · exact (h.prog _ _).mono (by omega)
    · split
      · exact (h.erase _).mono (by omega)
      · split
        · exact (h.arm _ _ ho.2.2.1 ho.2.1).mono (by omega)
        · split
          · exact h.on.mono (by omega)
          · exact h.mono (by omega)
def FS.runs : FS → List OpR → FS
  | s, [] => s
  | s, o :: l => FS.runs (s.does o.kind o.at' o.n o.b) l
theorem runs_append (s : FS) : ∀ (a b : List OpR), s.runs (a ++ b) = (s.runs a).runs b := by
  intro a
  induction a generalizing s with
  | nil => intro b; rfl
  | cons x a ih => intro b; simp only [List.cons_append, FS.runs, ih]
theorem runs_take (s : FS) {l : List OpR} {i : Nat} (h : i < l.length) (d : OpR) : s.runs (l.take (i + 1)) = (s.runs (l.take i)).does (l.getD i d).kind (l.getD i d).at' (l.getD i d).n (l.getD i d).b := by
  rw [List.take_succ_eq_append_getElem h, runs_append, List.getD_eq_getElem?_getD, List.getElem?_eq_getElem h]
  simp [FS.runs]
theorem Goes.new (x y : Nat) (h1 : 1 ≤ x ∧ x ≤ 64) (h2 : 16 ≤ y ∧ y ≤ 65536) : Goes 0 (x * y) y (FS.new x y) := by
  have : x * y ≤ 4194304 := Nat.le_trans (Nat.mul_le_mul h1.2 h2.2) (by decide)
  refine ⟨⟨by simpa [FS.new] using this, ⟨by simp [FS.new]; omega, by simp [FS.new]; omega⟩, by simp [FS.new, I64], by simp [FS.new, I64], by simp [FS.new]⟩, by simp [FS.new], rfl⟩
/-- no more than a statement does -/
structure Few (l : List OpR) : Prop where
  ok : ∀ o ∈ l, OpOk o
  n : l.length ≤ 150
  b : ∀ o ∈ l, o.b.length ≤ 32768
theorem Few.at {l : List OpR} (h : Few l) {i : Nat} (hi : i < l.length) (d : OpR) : OpOk (l.getD i d) ∧ (l.getD i d).b.length ≤ 32768 := by
  rw [List.getD_eq_getElem?_getD, List.getElem?_eq_getElem hi]
  exact ⟨h.ok _ (List.getElem_mem _), h.b _ (List.getElem_mem _)⟩
theorem few_sum : ∀ {l : List OpR}, sumB l ≤ 32768 → ∀ o ∈ l, o.b.length ≤ 32768
  | x :: l, h, o, ho => by
    simp only [sumB] at h
    rcases List.mem_cons.1 ho with rfl | ho
    · omega
    · exact few_sum (l := l) (by omega) o ho
theorem few_of {x y : Int} {l : List OpR} (hl : ∀ o ∈ l, OpOk o) (h : vastF x y l = false) : Few l ∧ x ≤ 64 ∧ y ≤ 2048 := by
  simp only [vastF, Bool.or_eq_false_iff, decide_eq_false_iff_not] at h
  exact ⟨⟨hl, by omega, few_sum (by omega)⟩, by omega, by omega⟩
/-- the flash that 'behind' gives -/
def FS.behind (x y : Nat) (l : List OpR) : FS := (((FS.new x y).runs l).on.2.arm 0 0).2
theorem Goes.runs {n k : Nat} {s : FS} (l : List OpR) (hl : Few l) (h : Goes 0 n k s) : ∀ i, i ≤ l.length → Goes (i * 32769) n k (s.runs (l.take i)) := by
  intro i
  induction i with
  | zero => intro _; simpa [FS.runs] using h
  | succ i ih =>
    intro hi
    have hk := hl.at hi op0
    rw [runs_take s hi op0]
    exact ((ih (by omega)).does _ hk.1).mono (by have := hk.2; push_cast; omega)
theorem on_dd (s : FS) : s.on.2.dd = false := by
  unfold FS.on
  split
  · rfl
  · rename_i h; simpa using h
theorem on_fst (s : FS) : s.on.1 = 0 ∨ s.on.1 = 12 := by
  unfold FS.on
  split <;> simp
theorem arm_ok (s : FS) : (s.on.2.arm 0 0).1 = 0 := by simp [FS.arm, on_dd]
theorem behind_facts (x y : Nat) (h1 : 1 ≤ x ∧ x ≤ 64) (h2 : 16 ≤ y ∧ y ≤ 65536) (l : List OpR) (hl : Few l) : Goes 4915350 (x * y) y (FS.behind x y l) ∧ (FS.behind x y l).dd = false ∧ (FS.behind x y l).ar = 0 := by
  have hr := Goes.runs l hl (Goes.new x y h1 h2) l.length (Nat.le_refl _)
  rw [List.take_length] at hr
  have hr2 := (hr.mono (by have := hl.n; omega : _ ≤ (4915350 : Int))).on
  refine ⟨hr2.arm 0 0 (by simp only [I64]; omega) (by simp only [I64]; omega), ?_, ?_⟩
  · simp [FS.behind, FS.arm, on_dd]
  · simp [FS.behind, FS.arm, on_dd]
theorem behind_bad (x y : Int) (hx : I64 x) (hy : I64 y) (h : ¬ (1 ≤ x ∧ x ≤ 64 ∧ 16 ≤ y ∧ y ≤ 65536)) (l : List OpR) : Spec Try.prog 8 [.val (.int .i64 x), .val (.int .i64 y), .sl 0 4 opA ⟨0, 0, 0, []⟩ l] [] (pms (.val (.pointer none)) [] []) := by
  refine spec_entry tbOk Try.func8 rfl Try.ntmps8 Try.results8 ?_
  (repeat (first | refine gos (k := ?_) | refine fun (_ : _ = false) => ?_ | refine ⟨fun (_ : true = true) => ?_, fun h => absurd h (by decide)⟩ | refine gtr (k := ?_)))
  refine cmks (newBad_vc x y hx hy h) Try.call21 0 [] [] [] ?_
  (repeat (first | refine gos (k := ?_) | refine fun (_ : _ = false) => ?_ | refine ⟨fun (_ : true = true) => ?_, fun h => absurd h (by decide)⟩ | refine gtr (k := ?_)))
  exact ⟨_, rfl, rfl, trivial⟩
def behI (x y : Nat) (l : List OpR) (i : Nat) : St := ⟨[.val (.int .i64 x), .val (.int .i64 y), .sl 0 4 opA ⟨0, 0, 0, []⟩ l, .any, .any, .any, .any, .ref 8 2 6 0 0, .any, .val (.int .i64 i), .any, .any, .any, .any, .any, .any, .any, .any, .any, .any, .any, .any, .any, .any, .any, .any, .any, .any, .any, .any, .any, .any, .any, .any, .any, .any, .any, .any, .any, .any, .any, .any, .any, .any], [⟨0, .dead⟩, ⟨0, .dead⟩, ⟨0, .dead⟩, ⟨0, .dead⟩, ⟨0, .dead⟩, ⟨0, .dead⟩, ⟨0, .dead⟩, ⟨3, .bytes ((FS.new x y).runs (l.take i)).l⟩, ⟨2, .obj [.own 7 3 1 0 ((FS.new x y).runs (l.take i)).l.length, .val (.int .i64 (((FS.new x y).runs (l.take i)).k : Int)), .val (.int .i64 ((FS.new x y).runs (l.take i)).ar), .val (.int .i64 ((FS.new x y).runs (l.take i)).pt), .val (.bool ((FS.new x y).runs (l.take i)).dd), .val (.int .i64 ((FS.new x y).runs (l.take i)).wr)]⟩, ⟨0, .dead⟩, ⟨0, .dead⟩, ⟨0, .dead⟩, ⟨0, .dead⟩, ⟨0, .dead⟩, ⟨0, .dead⟩, ⟨0, .dead⟩, ⟨0, .dead⟩, ⟨0, .dead⟩, ⟨0, .dead⟩, ⟨0, .dead⟩, ⟨0, .dead⟩, ⟨0, .dead⟩, ⟨0, .dead⟩, ⟨0, .dead⟩, ⟨0, .dead⟩, ⟨0, .dead⟩, ⟨0, .dead⟩, ⟨0, .dead⟩, ⟨0, .dead⟩, ⟨0, .dead⟩, ⟨0, .dead⟩, ⟨0, .dead⟩, ⟨0, .dead⟩, ⟨0, .dead⟩, ⟨0, .dead⟩, ⟨0, .dead⟩, ⟨0, .dead⟩, ⟨0, .dead⟩, ⟨0, .dead⟩, ⟨0, .dead⟩, ⟨0, .dead⟩, ⟨0, .dead⟩, ⟨0, .dead⟩, ⟨0, .dead⟩]⟩
theorem behind_vc (x y : Nat) (h1 : 1 ≤ x ∧ x ≤ 64) (h2 : 16 ≤ y ∧ y ≤ 65536) (l : List OpR) (hl : Few l) : Spec Try.prog 8 [.val (.int .i64 x), .val (.int .i64 y), .sl 0 4 opA ⟨0, 0, 0, []⟩ l] [] (pms (.ref 8 2 6 0 0) [] [(8, ⟨2, .obj [.own 7 3 1 0 (FS.behind x y l).l.length, .val (.int .i64 ((FS.behind x y l).k : Int)), .val (.int .i64 (FS.behind x y l).ar), .val (.int .i64 (FS.behind x y l).pt), .val (.bool (FS.behind x y l).dd), .val (.int .i64 (FS.behind x y l).wr)]⟩), (7, ⟨3, .bytes (FS.behind x y l).l⟩)]) := by
  refine spec_entry tbOk Try.func8 rfl Try.ntmps8 Try.results8 ?_
  (repeat (first | refine gos (k := ?_) | refine fun (_ : _ = false) => ?_ | refine ⟨fun (_ : true = true) => ?_, fun h => absurd h (by decide)⟩ | refine gtr (k := ?_)))
  refine cmks (spec_new x y h1 h2) Try.call21 0 [0, 0, 0, 0, 0, 0, 0, 0, 0, 0, 0, 0, 0, 0, 0, 0, 0, 0, 0, 0, 0, 0, 0, 0, 7, 0, 0, 8] [0, 0, 0, 0, 0, 0, 0, 0, 0, 0, 0, 0, 0, 0, 0, 0, 0, 0, 0, 0, 0, 0, 0, 0, 1, 0, 0, 1] [27, 24] ?_
  (repeat (first | refine gos (k := ?_) | refine fun (_ : _ = false) => ?_ | refine ⟨fun (_ : true = true) => ?_, fun h => absurd h (by decide)⟩ | refine gtr (k := ?_)))
  (refine sts (k := ?_))
  (refine sts (k := ?_))
  have hn := hl.n
  refine loop_of (σ := {i : Nat // i ≤ l.length}) (fun i => behI x y l i.1) (fun i => l.length - i.1) ⟨0, Nat.zero_le _⟩ ?_ ?_ ?_
  · simp [behI, FS.runs, leT, setD, setL, updH, evA, unA, getA, getL, constA, undefs, deads]
  · simp [behI, FS.runs, leH, setD, setL, updH, evA, unA, getA, getL, constA, undefs, deads]
  · rintro ⟨i, i1⟩
    dsimp only [behI]
    have hg := Goes.runs l hl (Goes.new x y h1 h2) i i1
    (repeat (first | refine gos (k := ?_) | refine fun (_ : _ = false) => ?_ | refine ⟨fun (_ : true = true) => ?_, fun h => absurd h (by decide)⟩ | refine gtr (k := ?_)))
    refine And.intro (fun h => ?_) (fun h => ?_)
    · have hlt : i < l.length := by have := of_decide_eq_true h; omega
      obtain ⟨ho, hb⟩ := hl.at hlt ⟨0, 0, 0, []⟩
      (repeat (first | refine gos (k := ?_) | refine fun (_ : _ = false) => ?_ | refine ⟨fun (_ : true = true) => ?_, fun h => absurd h (by decide)⟩ | refine gtr (k := ?_)))
      refine cmks (does_vc (i * 32769) ((FS.new x y).runs (l.take i)) hg.ok (l.getD i ⟨0, 0, 0, []⟩).kind (l.getD i ⟨0, 0, 0, []⟩).at' (l.getD i ⟨0, 0, 0, []⟩).n (l.getD i ⟨0, 0, 0, []⟩).b ho.1 ho.2.1 ho.2.2.1 (by omega) (by omega) 0 2 3) Try.call15 2 [8, 7] [0, 0] [] ?_
      rw [← runs_take (FS.new x y) hlt ⟨0, 0, 0, []⟩]
      (repeat (first | refine gos (k := ?_) | refine fun (_ : _ = false) => ?_ | refine ⟨fun (_ : true = true) => ?_, fun h => absurd h (by decide)⟩ | refine gtr (k := ?_)))
      (refine sts (k := ?_))
      refine ⟨⟨i + 1, hlt⟩, leS_of ?_ ?_, ?_⟩
      · simp [behI, leT, setD, setL, updH, evA, unA, getA, getL, constA, undefs, deads]
      · simp [behI, leH, setD, setL, updH, evA, unA, getA, getL, constA, undefs, deads]
      · show l.length - (i + 1) < l.length - i
        omega
    · have hlt : i = l.length := by have := of_decide_eq_false h; omega
      subst hlt
      rw [List.take_length]
      (repeat (first | refine gos (k := ?_) | refine fun (_ : _ = false) => ?_ | refine ⟨fun (_ : true = true) => ?_, fun h => absurd h (by decide)⟩ | refine gtr (k := ?_)))
      refine cdet (spec_on ((FS.new x y).runs l) 2 3) Try.call22 [8, 7] ?_
      have ha := arm_ok ((FS.new x y).runs l)
      rcases on_fst ((FS.new x y).runs l) with e | e
      · rw [e]
        (repeat (first | refine gos (k := ?_) | refine fun (_ : _ = false) => ?_ | refine ⟨fun (_ : true = true) => ?_, fun h => absurd h (by decide)⟩ | refine gtr (k := ?_)))
        (refine sts (k := ?_))
        refine gcl (k := ?_)
        refine cdet (spec_arm ((FS.new x y).runs l).on.2 0 0 (by unfold I64; decide) (by unfold I64; decide) 2 3) Try.call14 [8, 7] ?_
        rw [ha]
        (repeat (first | refine gos (k := ?_) | refine fun (_ : _ = false) => ?_ | refine ⟨fun (_ : true = true) => ?_, fun h => absurd h (by decide)⟩ | refine gtr (k := ?_)))
        exact ⟨_, rfl, rfl, rfl, rfl, trivial⟩
      · rw [e]
        (repeat (first | refine gos (k := ?_) | refine fun (_ : _ = false) => ?_ | refine ⟨fun (_ : true = true) => ?_, fun h => absurd h (by decide)⟩ | refine gtr (k := ?_)))
        (refine sts (k := ?_))
        refine gcl (k := ?_)
        refine cdet (spec_arm ((FS.new x y).runs l).on.2 0 0 (by unfold I64; decide) (by unfold I64; decide) 2 3) Try.call14 [8, 7] ?_
        rw [ha]
        (repeat (first | refine gos (k := ?_) | refine fun (_ : _ = false) => ?_ | refine ⟨fun (_ : true = true) => ?_, fun h => absurd h (by decide)⟩ | refine gtr (k := ?_)))
        exact ⟨_, rfl, rfl, rfl, rfl, trivial⟩
end Go.Proofs.Ytjfenbkhgamidaa
