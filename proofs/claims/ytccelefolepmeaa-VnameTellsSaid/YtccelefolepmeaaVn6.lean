/- Package vname: contract of Kind. Conditions: a string of at most maxLen bytes, a guid of 16 bytes. -/
import Derived.Test.YtccelefolepmeaaVn5
import Derived.Test.YtccelefolepmeaaMp
namespace Go.Proofs.Ytccelefolepmeaa
open Go.RowKit
set_option linter.unusedVariables false

def tab : List (List UInt8 × List UInt8 × Int) := [(nPK, globalG, 1), (nKEK, globalG, 2), (nSetup, globalG, 4), (nSecure, globalG, 4), (nAudit, globalG, 4), (nDeployed, globalG, 4), (nDb, securityG, 3), (nDbx, securityG, 3), (nDbt, securityG, 3)]
theorem tab_kind : ∀ x ∈ tab, kindF x.1 x.2.1 = x.2.2 ∧ x.2.1.length = 16 ∧ x.1.length ≤ 12 := by decide
theorem tab_all {n g : List UInt8} (h : kindF n g ≠ 0) : ∃ x ∈ tab, x.1 = n ∧ x.2.1 = g := by
  unfold kindF at h
  split at h
  · rename_i hg
    split at h
    · exact ⟨(nPK, globalG, 1), by simp [tab], by simp [*]⟩
    · split at h
      · exact ⟨(nKEK, globalG, 2), by simp [tab], by simp [*]⟩
      · split at h
        · rename_i hn
          rcases hn with hn | hn | hn | hn
          · exact ⟨(nSetup, globalG, 4), by simp [tab], by simp [*]⟩
          · exact ⟨(nSecure, globalG, 4), by simp [tab], by simp [*]⟩
          · exact ⟨(nAudit, globalG, 4), by simp [tab], by simp [*]⟩
          · exact ⟨(nDeployed, globalG, 4), by simp [tab], by simp [*]⟩
        · exact absurd rfl h
  · split at h
    · rename_i hn
      obtain ⟨hg, hn | hn | hn⟩ := hn
      · exact ⟨(nDb, securityG, 3), by simp [tab], by simp [*]⟩
      · exact ⟨(nDbx, securityG, 3), by simp [tab], by simp [*]⟩
      · exact ⟨(nDbt, securityG, 3), by simp [tab], by simp [*]⟩
    · exact absurd rfl h
theorem laidOut : laidOutB Try.prog = true := by kernel_rfl
theorem key44 : Maps.Keyed Try.prog 44 := Maps.Keyed.of_law (deep_law_laid laidOut (m := 3) (by omega) (of_decide_eq_true (by kernel_rfl)) (by kernel_rfl) (by kernel_rfl))
theorem und44 : ∃ f1 f2 : Field, Try.prog.underlying 44 = some (.struct #[f1, f2]) ∧ f1.type = 9 ∧ f2.type = 31 ∧ f1.offset = 0 ∧ f2.offset = 1 ∧ f1.name ≠ "_" ∧ f2.name ≠ "_" := by
  refine ⟨_, _, Try.underlying44, rfl, rfl, rfl, rfl, ?_, ?_⟩ <;> decide
theorem und45 : Try.prog.underlying 45 = some (.map 44 5) := by kernel_rfl
theorem keyOf44 {s g : List UInt8} (hs : s.length ≤ maxLen) (hg : g.length = 16) : ∃ l, keyOf Try.prog 44 (sgv s g) = some l := by
  obtain ⟨f1, f2, h1, h2, h3, h4, h5, h6, h7⟩ := und44
  exact keyOf_sgv h1 h2 h3 h4 h5 h6 h7 Try.underlying9 (by kernel_rfl) und31 Try.underlying5 cells31 cells5 (by kernel_rfl) (by kernel_rfl) (of_decide_eq_true (by kernel_rfl)) hs hg
theorem build44' (s : ByteArray) (c0 c1 c2 c3 c4 c5 c6 c7 c8 c9 c10 c11 c12 c13 c14 c15 : Value) (w : World) : (Instr.build 44 #[(0, .string s), (1, .agg #[c0, c1, c2, c3, c4, c5, c6, c7, c8, c9, c10, c11, c12, c13, c14, c15])]).run Try.prog w = .ok (.agg #[.string s, c0, c1, c2, c3, c4, c5, c6, c7, c8, c9, c10, c11, c12, c13, c14, c15]) w := by kernel_rfl
theorem build44 (s : List UInt8) (g : List UInt8) (hg : g.length = 16) (w : World) : (Instr.build 44 #[(0, .string (strOf s)), (1, gv g)]).run Try.prog w = .ok (sgv s g) w := by
  match g, hg with
  | [c0, c1, c2, c3, c4, c5, c6, c7, c8, c9, c10, c11, c12, c13, c14, c15], _ => exact build44' (strOf s) (bv c0) (bv c1) (bv c2) (bv c3) (bv c4) (bv c5) (bv c6) (bv c7) (bv c8) (bv c9) (bv c10) (bv c11) (bv c12) (bv c13) (bv c14) (bv c15) w

/-- the map in block b: every entry is one of the table's -/
def MapOk (b : Nat) (w : World) : Prop := ∃ es c, w.heap[b]? = some (.map es c) ∧ ∀ e ∈ es, ∃ x ∈ tab, e.key = sgv x.1 x.2.1 ∧ e.val = .int .u8 x.2.2
/-- it has that key -/
def Pr (b : Nat) (k : Value) (w : World) : Prop := ∃ es c, w.heap[b]? = some (.map es c) ∧ ∃ e ∈ es, e.key = k
theorem map_put {b : Nat} {w : World} (h : MapOk b w) (x : List UInt8 × List UInt8 × Int) (hx : x ∈ tab) :
    ∃ w', (Instr.mapUpdate 45 (.map (some b)) (sgv x.1 x.2.1) (.int .u8 x.2.2)).run Try.prog w = .ok () w' ∧ MapOk b w' ∧ Pr b (sgv x.1 x.2.1) w' ∧ (∀ k, Pr b k w → Pr b k w') ∧ Ch w w' (fun i => i = b) ∧ w'.heap.size = w.heap.size := by
  obtain ⟨es, c, hb, hes⟩ := h
  obtain ⟨hk1, hk2, hk3⟩ := tab_kind x hx
  obtain ⟨l, hl⟩ := keyOf44 (s := x.1) (g := x.2.1) (by unfold maxLen; omega) hk2
  have hko : KeysOk Try.prog 44 es := fun e he => by
    obtain ⟨y, hy, h1, _⟩ := hes e he
    obtain ⟨_, h2, h3⟩ := tab_kind y hy
    rw [h1]; exact keyOf44 (by unfold maxLen; omega) h2
  obtain ⟨es', c', hr, _, h1, h2, h3⟩ := run_mapUpdate und45 key44 hb (v := .int .u8 x.2.2) hl hko
  have hlt := (Array.getElem?_eq_some_iff.1 hb).1
  refine ⟨_, hr, ⟨es', c', putObj_at hlt, fun e he => ?_⟩, ⟨es', c', putObj_at hlt, h2⟩, fun k hk => ?_, putObj_ch _ _ _, putObj_size _ _ _⟩
  · rcases h1 e he with ⟨e1, e2⟩ | ⟨e0, he0, e1, e2⟩
    · exact ⟨x, hx, e1, e2⟩
    · obtain ⟨y, hy, y1, y2⟩ := hes e0 he0
      exact ⟨y, hy, e1.trans y1, e2.trans y2⟩
  · obtain ⟨es1, c1, hb1, e0, he0, hk0⟩ := hk
    rw [hb] at hb1
    cases hb1
    obtain ⟨e, he, hek⟩ := h3 e0 he0
    exact ⟨es', c', putObj_at hlt, e, he, hek.trans hk0⟩
theorem map_get {b : Nat} {w : World} (h : MapOk b w) (hp : ∀ x ∈ tab, Pr b (sgv x.1 x.2.1) w) {s g : List UInt8} (hs : s.length ≤ maxLen) (hg : g.length = 16) :
    (Instr.lookup 45 (.map (some b)) (sgv s g) false).run Try.prog w = .ok (.int .u8 (kindF s g)) w := by
  obtain ⟨es, c, hb, hes⟩ := h
  obtain ⟨l, hl⟩ := keyOf44 hs hg
  have hko : KeysOk Try.prog 44 es := fun e he => by
    obtain ⟨y, hy, h1, _⟩ := hes e he
    obtain ⟨_, h2, h3⟩ := tab_kind y hy
    rw [h1]; exact keyOf44 (by unfold maxLen; omega) h2
  obtain ⟨v, hr, hv⟩ := run_lookup und45 key44 hb hl hko (z := .int .u8 0) (by kernel_rfl)
  rw [hr]
  congr 1
  rcases hv with ⟨rfl, hn⟩ | ⟨e, he, hk, rfl⟩
  · by_cases h0 : kindF s g = 0
    · rw [h0]
    · obtain ⟨x, hx, rfl, rfl⟩ := tab_all h0
      obtain ⟨es1, c1, hb1, e, he, hek⟩ := hp x hx
      rw [hb] at hb1
      cases hb1
      exact absurd hek (hn e he)
  · obtain ⟨x, hx, h1, h2⟩ := hes e he
    rw [h1] at hk
    obtain ⟨rfl, rfl⟩ := sgv_inj hk
    rw [h2, (tab_kind x hx).1]

/-- what may become of the world while the map is filled -/
structure GK (B : Nat) (x y : World) : Prop where
  below : Below B x y
  ok : ∀ b, B ≤ b → MapOk b x → MapOk b y
  pr : ∀ b k, B ≤ b → Pr b k x → Pr b k y
theorem GK.refl (B : Nat) (x : World) : GK B x x := ⟨Below.refl _ _, fun _ _ h => h, fun _ _ _ h => h⟩
theorem GK.trans {B : Nat} {x y z : World} (h : GK B x y) (k : GK B y z) : GK B x z := ⟨h.below.trans k.below, fun b hb h' => k.ok b hb (h.ok b hb h'), fun b q hb h' => k.pr b q hb (h.pr b q hb h')⟩
theorem GK.of_below {B : Nat} {x y : World} (h : Below x.heap.size x y) (hB : B ≤ x.heap.size) : GK B x y := by
  refine ⟨h.mono hB, fun b _ ⟨es, c, hb, r⟩ => ?_, fun b k _ ⟨es, c, hb, r⟩ => ?_⟩
  · exact ⟨es, c, (h.block b (Array.getElem?_eq_some_iff.1 hb).1).trans hb, r⟩
  · exact ⟨es, c, (h.block b (Array.getElem?_eq_some_iff.1 hb).1).trans hb, r⟩
theorem GK.put {B b : Nat} {x y : World} (hb : B ≤ b) (hB : B ≤ x.heap.size) (h : Ch x y (fun i => i = b)) (hok : MapOk b y) (hpr : ∀ k, Pr b k x → Pr b k y) : GK B x y := by
  refine ⟨h.below (fun i _ e => by omega) hB, fun b' _ ⟨es, c, hb', r⟩ => ?_, fun b' k _ h' => ?_⟩
  · by_cases e : b' = b
    · subst e; exact hok
    · exact ⟨es, c, (h.block b' (Array.getElem?_eq_some_iff.1 hb').1 e).trans hb', r⟩
  · by_cases e : b' = b
    · subst e; exact hpr k h'
    · obtain ⟨es, c, hb', r⟩ := h'
      exact ⟨es, c, (h.block b' (Array.getElem?_eq_some_iff.1 hb').1 e).trans hb', r⟩
theorem map_round {b : Nat} {wr w3 : World} (hb3 : Below wr.heap.size wr w3) (h : MapOk b wr) (x : List UInt8 × List UInt8 × Int) (hx : x ∈ tab) :
    ∃ w4, (Instr.mapUpdate 45 (.map (some b)) (sgv x.1 x.2.1) (.int .u8 x.2.2)).run Try.prog w3 = .ok () w4 ∧ MapOk b w4 ∧ Pr b (sgv x.1 x.2.1) w4 ∧ (∀ k, Pr b k wr → Pr b k w4) ∧ Ch wr w4 (fun i => i = b) := by
  have G := GK.of_below (B := 0) hb3 (Nat.zero_le _)
  obtain ⟨w4, h1, h2, h3, h4, h5, h6⟩ := map_put (G.ok b (Nat.zero_le _) h) x hx
  exact ⟨w4, h1, h2, h3, fun k hk => h4 k (G.pr b k (Nat.zero_le _) hk), (Ch.of_below hb3 _).trans h5 (fun _ _ h => h)⟩
end Go.Proofs.Ytccelefolepmeaa
