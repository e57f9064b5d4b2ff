/- Maps that the call itself makes, told by the keys and values of their entries. Package vname: contract of Kind, its map. Conditions: a string of at most maxLen bytes, a guid of 16 bytes. Package vname: contract of Kind, the walk. Conditions: a string of at most maxLen bytes, a guid of 16 bytes. Package vname: Kind as a Spec, Global, Security. Conditions: a string of at most 2^47 bytes, a guid of 16 bytes. Conditions: the premises of each law. -/
import Derived.Test.YtmjpbmcbcppkfaaGreatDoorJAd
import Derived.Test.YtmjpbmcbcppkfaaGreatDoorJRg
import Derived.Carry
import Derived.MapKept
import Derived.Outline
import Derived.Lib.Hide
import Derived.Test.YtmjpbmcbcppkfaaGreatDoorJKj
namespace Go.Proofs.YtmjpbmcbcppkfaaGreatDoor
open Go.RowKit

def putObj (w : World) (b : Nat) (o : Obj) : World := { w with heap := w.heap.setIfInBounds b o }
theorem putObj_ch (w : World) (b : Nat) (o : Obj) : Ch w (putObj w b o) (fun k => k = b) :=
 ⟨rfl, rfl, rfl, by simp [putObj], fun k _ hn => by simp [putObj, Array.getElem?_setIfInBounds_ne (Ne.symm hn)]⟩
theorem putObj_size (w : World) (b : Nat) (o : Obj) : (putObj w b o).heap.size = w.heap.size := by simp [putObj]
theorem putObj_at {w : World} {b : Nat} {o : Obj} (h : b < w.heap.size) : (putObj w b o).heap[b]? = some o := by simp [putObj, h]
section
variable {P : Program} {k : TypeId}
theorem run_get_map {w : World} {r : Nat} {es : Array MapEntry} {c : Nat} (hb : w.heap[r]? = some (.map es c)) : (getObj r).run P w = .ok (.map es c) w := MapKept.run_getObj_map hb
theorem run_set_map {w : World} {r : Nat} {es : Array MapEntry} {c : Nat} (o : Obj) (hb : w.heap[r]? = some (.map es c)) : (setObj r o).run P w = .ok () (putObj w r o) := MapKept.run_setObj_map o hb
def KeysOk (P : Program) (k : TypeId) (es : Array MapEntry) : Prop := ∀ e ∈ es, ∃ l, keyOf P k e.key = some l
theorem run_mapUpdate {T E : TypeId} (hT : P.underlying T = some (.map k E)) (K : Maps.Keyed P k) {w : World} {b : Nat} {es : Array MapEntry} {c : Nat} (hb : w.heap[b]? = some (.map es c)) {key v : Value} {l : Lit} (hk : keyOf P k key = some l) (hes : KeysOk P k es) :
    ∃ es' c', (Instr.mapUpdate T (.map (some b)) key v).run P w = .ok () (putObj w b (.map es' c')) ∧ KeysOk P k es' ∧ (∀ e ∈ es', (e.key = key ∧ e.val = v) ∨ ∃ e0 ∈ es, e.key = e0.key ∧ e.val = e0.val) ∧ (∃ e ∈ es', e.key = key) ∧ (∀ e0 ∈ es, ∃ e ∈ es', e.key = e0.key) := by
 have hchk := K.check w false hk
 have hes' : ∀ e ∈ es.toList, ∃ l, keyOf P k e.key = some l := fun e he => hes e (Array.mem_toList_iff.1 he)
 rcases K.find w hk es.toList hes' with ⟨hf, hn⟩ | ⟨j, e, hf, hj, hje⟩
 ·refine ⟨es.push { key, val := v, born := c }, c + 1, ?_, ?_, ?_, ?_, ?_⟩
  ·unfold Instr.mapUpdate
   simp [Sem.run_bind, run_underlying hT, run_get_map hb, hchk, hf, run_set_map _ hb]
  ·intro e he
   rcases Array.mem_push.1 he with h | rfl
   ·exact hes e h
   ·exact ⟨l, hk⟩
  ·intro e he
   rcases Array.mem_push.1 he with h | rfl
   ·exact .inr ⟨e, h, rfl, rfl⟩
   ·exact .inl ⟨rfl, rfl⟩
  ·exact ⟨_, Array.mem_push.2 (.inr rfl), rfl⟩
  ·exact fun e0 he => ⟨e0, Array.mem_push.2 (.inl he), rfl⟩
 ·have hja : es[j]? = some e := by simpa using hj
  have hjl := (Array.getElem?_eq_some_iff.1 hja).1
  have hst := K.stays w hk
  refine ⟨es.modify j fun e => { e with key, val := v }, c, ?_, ?_, ?_, ?_, ?_⟩
  ·unfold Instr.mapUpdate
   simp [Sem.run_bind, run_underlying hT, run_get_map hb, hchk, hf, hja, hje, hst, run_set_map _ hb]
  ·intro e' he
   obtain ⟨i, hi, rfl⟩ := Array.mem_iff_getElem.1 he
   simp only [Array.getElem_modify]
   split
   ·exact ⟨l, hk⟩
   ·exact hes _ (Array.getElem_mem _)
  ·intro e' he
   obtain ⟨i, hi, rfl⟩ := Array.mem_iff_getElem.1 he
   simp only [Array.getElem_modify]
   split
   ·exact .inl ⟨rfl, rfl⟩
   ·exact .inr ⟨_, Array.getElem_mem _, rfl, rfl⟩
  ·refine ⟨(es.modify j fun e => { e with key, val := v })[j]'(by simpa using hjl), Array.getElem_mem _, ?_⟩
   simp [Array.getElem_modify]
  ·intro e0 he
   obtain ⟨i, hi, rfl⟩ := Array.mem_iff_getElem.1 he
   refine ⟨(es.modify j fun e => { e with key, val := v })[i]'(by simpa using hi), Array.getElem_mem _, ?_⟩
   simp only [Array.getElem_modify]
   split
   ·rename_i h
    subst h
    have : es[j] = e := by simpa [hi] using hja
    simp [this, hje]
   ·rfl
theorem run_lookup {T E : TypeId} (hT : P.underlying T = some (.map k E)) (K : Maps.Keyed P k) {w : World} {b : Nat} {es : Array MapEntry} {c : Nat} (hb : w.heap[b]? = some (.map es c)) {key : Value} {l : Lit} (hk : keyOf P k key = some l) (hes : KeysOk P k es) {z : Value} (hz : (zeroValue E).run P w = .ok z w) :
    ∃ v, (Instr.lookup T (.map (some b)) key false).run P w = .ok v w ∧ ((v = z ∧ ∀ e ∈ es, e.key ≠ key) ∨ ∃ e ∈ es, e.key = key ∧ e.val = v) := by
 have hchk := K.check w es.isEmpty hk
 have hes' : ∀ e ∈ es.toList, ∃ l, keyOf P k e.key = some l := fun e he => hes e (Array.mem_toList_iff.1 he)
 rcases K.find w hk es.toList hes' with ⟨hf, hn⟩ | ⟨j, e, hf, hj, hje⟩
 ·refine ⟨z, ?_, .inl ⟨rfl, fun e he => hn e (Array.mem_toList_iff.2 he)⟩⟩
  unfold Instr.lookup
  simp [Sem.run_bind, run_underlying hT, run_get_map hb, hchk, hf, hz]
 ·refine ⟨e.val, ?_, .inr ⟨e, Array.mem_toList_iff.1 (List.mem_of_getElem? hj), hje, rfl⟩⟩
  unfold Instr.lookup
  simp [Sem.run_bind, run_underlying hT, run_get_map hb, hchk, hf]
theorem exec_mapUpdate {o : Oper} {ρ : Operand → Value} {m x y : Operand} {w w' : World} {T : TypeId} (ho : o.op = .mapUpdate T m x y ∨ o.op = .insert T m x y) {mv kv v : Value} (hm : ρ m = mv) (hx : ρ x = kv) (hy : ρ y = v) (hr : (Instr.mapUpdate T mv kv v).run P w = .ok () w') : (execOp ρ o).run P w = .ok .skip w' := by
 unfold execOp
 rcases ho with ho | ho <;> simp only [ho, hm, hx, hy, Sem.run_bind, hr, Sem.run_pure, Result.andThen_ok]
theorem exec_lookup {o : Oper} {ρ : Operand → Value} {m x : Operand} {w : World} {T : TypeId} (ho : o.op = .lookup T m x false) {mv kv v : Value} (hm : ρ m = mv) (hx : ρ x = kv) (hr : (Instr.lookup T mv kv false).run P w = .ok v w) : (execOp ρ o).run P w = .ok (.value v) w := by
 unfold execOp; simp only [ho, hm, hx, Sem.run_bind, hr, Sem.run_pure, Result.andThen_ok]
theorem exec_build {o : Oper} {ρ : Operand → Value} {w : World} {t : TypeId} {parts : Array (Nat × Operand)} (ho : o.op = .build t parts) {ps : Array (Nat × Value)} (hp : parts.map (fun (i, x) => (i, ρ x)) = ps) {v : Value} (hr : (Instr.build t ps).run P w = .ok v w) : (execOp ρ o).run P w = .ok (.value v) w := by
 unfold execOp; simp only [ho, hp, Sem.run_bind, hr, Sem.run_pure, Result.andThen_ok]
theorem exec_makeMap {o : Oper} {ρ : Operand → Value} {w : World} {t : TypeId} (ho : o.op = .makeMap t none) : (execOp ρ o).run P w = .ok (.value (.map (some w.heap.size))) (w.alloc (.map #[] 0)) := by
 unfold execOp
 have := @run_makeMap P t w
 simp only [ho, Option.map_none, Sem.run_bind, this, Sem.run_pure, Result.andThen_ok]
end
end Go.Proofs.YtmjpbmcbcppkfaaGreatDoor
namespace Go.Proofs.YtmjpbmcbcppkfaaGreatDoor
open Go.RowKit
set_option linter.unusedVariables false
set_option maxRecDepth 100000
def globalG : List UInt8 := [0x61, 0xdf, 0xe4, 0x8b, 0xca, 0x93, 0xd2, 0x11, 0xaa, 0x0d, 0x00, 0xe0, 0x98, 0x03, 0x2b, 0x8c]
def securityG : List UInt8 := [0xcb, 0xb2, 0x19, 0xd7, 0x3a, 0x3d, 0x96, 0x45, 0xa3, 0xbc, 0xda, 0xd0, 0x0e, 0x67, 0x65, 0x6f]
def z16 : List UInt8 := List.replicate 16 0
theorem allocG (w : World) : (Instr.alloc 33 true (.tuple #[])).run Tryz.prog w = .ok (.pointer (some ⟨w.heap.size, 0, none⟩)) (w.alloc (.cells (bvs z16).toArray 33)) := by kernel_rfl
theorem TG : AggTy Tryz.prog 33 16 := ⟨by kernel_rfl, by kernel_rfl⟩
theorem buildGlobal (w : World) : (Instr.build 33 #[(0, .int .u8 97), (1, .int .u8 223), (2, .int .u8 228), (3, .int .u8 139), (4, .int .u8 202), (5, .int .u8 147), (6, .int .u8 210), (7, .int .u8 17), (8, .int .u8 170), (9, .int .u8 13), (10, .int .u8 0), (11, .int .u8 224), (12, .int .u8 152), (13, .int .u8 3), (14, .int .u8 43), (15, .int .u8 140)]).run Tryz.prog w = .ok (gv globalG) w := by kernel_rfl
theorem buildSecurity (w : World) : (Instr.build 33 #[(0, .int .u8 203), (1, .int .u8 178), (2, .int .u8 25), (3, .int .u8 215), (4, .int .u8 58), (5, .int .u8 61), (6, .int .u8 150), (7, .int .u8 69), (8, .int .u8 163), (9, .int .u8 188), (10, .int .u8 218), (11, .int .u8 208), (12, .int .u8 14), (13, .int .u8 103), (14, .int .u8 101), (15, .int .u8 111)]).run Tryz.prog w = .ok (gv securityG) w := by kernel_rfl

theorem global_spec (w : World) : Calls Tryz.prog 31 #[] w fun e w' => e = .returned (gv globalG) ∧ Below w.heap.size w w' := by
 go_enter Tryz.func31, Tryz.ntmps31
 go_wp2_with (first
  | ((with_reducible show wpList _ _ _ (Oper.mk _ (Op.alloc _) _ _ _ _ :: _) _ _); refine wpl_alloc rfl 33 rfl _ (allocG _) ?_)
  | ((with_reducible show wpList _ _ _ (Oper.mk _ (Op.build _ _) _ _ _ _ :: _) _ _); refine wpl_build rfl 33 _ rfl _ rfl _ (buildGlobal _) ?_)
  | ((with_reducible show wpList _ _ _ (Oper.mk _ (Op.store _ _ _) _ _ _ _ :: _) _ _); refine wpl_store_all (n := 16) rfl 33 _ _ rfl TG.sizeOf w.heap.size rfl (gv globalG) rfl (cs := bvs globalG) (by simp [gv, Value.cells]) rfl (heap_alloc_new w _) (.inl (Nat.le_refl _)) rfl (bvs_one _) ?_; intro w1 hg hch hsz1))
 have hb : Below w.heap.size w w1 := ((Ch.refl w (fun _ => False)).alloc _ |>.trans (S' := fun k => k = w.heap.size) hch (fun i hi e => by omega)).below (fun _ _ h => h.elim) (Nat.le_refl _)
 exact bodyPost_ret (results_c rfl rfl (run_loadVar_at TG (cs := bvs globalG) rfl (cells_of_block hg))) rfl ⟨rfl, hb⟩

theorem security_spec (w : World) : Calls Tryz.prog 37 #[] w fun e w' => e = .returned (gv securityG) ∧ Below w.heap.size w w' := by
 go_enter Tryz.func37, Tryz.ntmps37
 go_wp2_with (first
  | ((with_reducible show wpList _ _ _ (Oper.mk _ (Op.alloc _) _ _ _ _ :: _) _ _); refine wpl_alloc rfl 33 rfl _ (allocG _) ?_)
  | ((with_reducible show wpList _ _ _ (Oper.mk _ (Op.build _ _) _ _ _ _ :: _) _ _); refine wpl_build rfl 33 _ rfl _ rfl _ (buildSecurity _) ?_)
  | ((with_reducible show wpList _ _ _ (Oper.mk _ (Op.store _ _ _) _ _ _ _ :: _) _ _); refine wpl_store_all (n := 16) rfl 33 _ _ rfl TG.sizeOf w.heap.size rfl (gv securityG) rfl (cs := bvs securityG) (by simp [gv, Value.cells]) rfl (heap_alloc_new w _) (.inl (Nat.le_refl _)) rfl (bvs_one _) ?_; intro w1 hg hch hsz1))
 have hb : Below w.heap.size w w1 := ((Ch.refl w (fun _ => False)).alloc _ |>.trans (S' := fun k => k = w.heap.size) hch (fun i hi e => by omega)).below (fun _ _ h => h.elim) (Nat.le_refl _)
 exact bodyPost_ret (results_c rfl rfl (run_loadVar_at TG (cs := bvs securityG) rfl (cells_of_block hg))) rfl ⟨rfl, hb⟩

def nPK : List UInt8 := [80, 75]
def nKEK : List UInt8 := [75, 69, 75]
def nSetup : List UInt8 := [83, 101, 116, 117, 112, 77, 111, 100, 101]
def nSecure : List UInt8 := [83, 101, 99, 117, 114, 101, 66, 111, 111, 116]
def nAudit : List UInt8 := [65, 117, 100, 105, 116, 77, 111, 100, 101]
def nDeployed : List UInt8 := [68, 101, 112, 108, 111, 121, 101, 100, 77, 111, 100, 101]
def nDb : List UInt8 := [100, 98]
def nDbx : List UInt8 := [100, 98, 120]
def nDbt : List UInt8 := [100, 98, 116]
def kindF (n g : List UInt8) : Int :=
 if g = globalG then (if n = nPK then 1 else if n = nKEK then 2 else if n = nSetup ∨ n = nSecure ∨ n = nAudit ∨ n = nDeployed then 4 else 0)
 else if g = securityG ∧ (n = nDb ∨ n = nDbx ∨ n = nDbt) then 3 else 0
theorem und31 : Tryz.prog.underlying 33 = some (.array 16 5) := by kernel_rfl
theorem cells31 : Tryz.prog.cellsOf 33 = 16 := by kernel_rfl
theorem cells5 : Tryz.prog.cellsOf 5 = 1 := by kernel_rfl
def tab : List (List UInt8 × List UInt8 × Int) := [(nPK, globalG, 1), (nKEK, globalG, 2), (nSetup, globalG, 4), (nSecure, globalG, 4), (nAudit, globalG, 4), (nDeployed, globalG, 4), (nDb, securityG, 3), (nDbx, securityG, 3), (nDbt, securityG, 3)]
theorem tab_kind : ∀ x ∈ tab, kindF x.1 x.2.1 = x.2.2 ∧ x.2.1.length = 16 ∧ x.1.length ≤ 12 := by decide
theorem tab_all {n g : List UInt8} (h : kindF n g ≠ 0) : ∃ x ∈ tab, x.1 = n ∧ x.2.1 = g := by
 unfold kindF at h
 split at h
 ·rename_i hg
  split at h
  ·exact ⟨(nPK, globalG, 1), by simp [tab], by simp [*]⟩
  ·split at h
   ·exact ⟨(nKEK, globalG, 2), by simp [tab], by simp [*]⟩
   ·split at h
    ·rename_i hn
     rcases hn with hn | hn | hn | hn
     ·exact ⟨(nSetup, globalG, 4), by simp [tab], by simp [*]⟩
     ·exact ⟨(nSecure, globalG, 4), by simp [tab], by simp [*]⟩
     ·exact ⟨(nAudit, globalG, 4), by simp [tab], by simp [*]⟩
     ·exact ⟨(nDeployed, globalG, 4), by simp [tab], by simp [*]⟩
    ·exact absurd rfl h
 ·split at h
  ·rename_i hn
   obtain ⟨hg, hn | hn | hn⟩ := hn
   ·exact ⟨(nDb, securityG, 3), by simp [tab], by simp [*]⟩
   ·exact ⟨(nDbx, securityG, 3), by simp [tab], by simp [*]⟩
   ·exact ⟨(nDbt, securityG, 3), by simp [tab], by simp [*]⟩
  ·exact absurd rfl h
theorem laidOut : laidOutB Tryz.prog = true := by kernel_rfl
theorem key44 : Maps.Keyed Tryz.prog 90 := Maps.Keyed.of_law (deep_law_laid laidOut (m := 3) (by omega) (of_decide_eq_true (by kernel_rfl)) (by kernel_rfl) (by kernel_rfl))
theorem und44 : ∃ f1 f2 : Field, Tryz.prog.underlying 90 = some (.struct #[f1, f2]) ∧ f1.type = 9 ∧ f2.type = 33 ∧ f1.offset = 0 ∧ f2.offset = 1 ∧ f1.name ≠ "_" ∧ f2.name ≠ "_" := by
 refine ⟨_, _, Tryz.underlying90, rfl, rfl, rfl, rfl, ?_, ?_⟩ <;> decide
theorem und45 : Tryz.prog.underlying 91 = some (.map 90 5) := by kernel_rfl
theorem keyOf44 {s g : List UInt8} (hs : s.length ≤ maxLen) (hg : g.length = 16) : ∃ l, keyOf Tryz.prog 90 (sgv s g) = some l := by
 obtain ⟨f1, f2, h1, h2, h3, h4, h5, h6, h7⟩ := und44
 exact keyOf_sgv h1 h2 h3 h4 h5 h6 h7 Tryz.underlying9 (by kernel_rfl) und31 Tryz.underlying5 cells31 cells5 (by kernel_rfl) (by kernel_rfl) (of_decide_eq_true (by kernel_rfl)) hs hg
theorem build44' (s : ByteArray) (c0 c1 c2 c3 c4 c5 c6 c7 c8 c9 c10 c11 c12 c13 c14 c15 : Value) (w : World) : (Instr.build 90 #[(0, .string s), (1, .agg #[c0, c1, c2, c3, c4, c5, c6, c7, c8, c9, c10, c11, c12, c13, c14, c15])]).run Tryz.prog w = .ok (.agg #[.string s, c0, c1, c2, c3, c4, c5, c6, c7, c8, c9, c10, c11, c12, c13, c14, c15]) w := by kernel_rfl
theorem build44 (s : List UInt8) (g : List UInt8) (hg : g.length = 16) (w : World) : (Instr.build 90 #[(0, .string (strOf s)), (1, gv g)]).run Tryz.prog w = .ok (sgv s g) w := by
 match g, hg with
 | [c0, c1, c2, c3, c4, c5, c6, c7, c8, c9, c10, c11, c12, c13, c14, c15], _ => exact build44' (strOf s) (bv c0) (bv c1) (bv c2) (bv c3) (bv c4) (bv c5) (bv c6) (bv c7) (bv c8) (bv c9) (bv c10) (bv c11) (bv c12) (bv c13) (bv c14) (bv c15) w

def MapOk (b : Nat) (w : World) : Prop := ∃ es c, w.heap[b]? = some (.map es c) ∧ ∀ e ∈ es, ∃ x ∈ tab, e.key = sgv x.1 x.2.1 ∧ e.val = .int .u8 x.2.2
def Pr (b : Nat) (k : Value) (w : World) : Prop := ∃ es c, w.heap[b]? = some (.map es c) ∧ ∃ e ∈ es, e.key = k
theorem map_put {b : Nat} {w : World} (h : MapOk b w) (x : List UInt8 × List UInt8 × Int) (hx : x ∈ tab) :
    ∃ w', (Instr.mapUpdate 91 (.map (some b)) (sgv x.1 x.2.1) (.int .u8 x.2.2)).run Tryz.prog w = .ok () w' ∧ MapOk b w' ∧ Pr b (sgv x.1 x.2.1) w' ∧ (∀ k, Pr b k w → Pr b k w') ∧ Ch w w' (fun i => i = b) ∧ w'.heap.size = w.heap.size := by
 obtain ⟨es, c, hb, hes⟩ := h
 obtain ⟨hk1, hk2, hk3⟩ := tab_kind x hx
 obtain ⟨l, hl⟩ := keyOf44 (s := x.1) (g := x.2.1) (by unfold maxLen; omega) hk2
 have hko : KeysOk Tryz.prog 90 es := fun e he => by
  obtain ⟨y, hy, h1, _⟩ := hes e he
  obtain ⟨_, h2, h3⟩ := tab_kind y hy
  rw [h1]; exact keyOf44 (by unfold maxLen; omega) h2
 obtain ⟨es', c', hr, _, h1, h2, h3⟩ := run_mapUpdate und45 key44 hb (v := .int .u8 x.2.2) hl hko
 have hlt := (Array.getElem?_eq_some_iff.1 hb).1
 refine ⟨_, hr, ⟨es', c', putObj_at hlt, fun e he => ?_⟩, ⟨es', c', putObj_at hlt, h2⟩, fun k hk => ?_, putObj_ch _ _ _, putObj_size _ _ _⟩
 ·rcases h1 e he with ⟨e1, e2⟩ | ⟨e0, he0, e1, e2⟩
  ·exact ⟨x, hx, e1, e2⟩
  ·obtain ⟨y, hy, y1, y2⟩ := hes e0 he0
   exact ⟨y, hy, e1.trans y1, e2.trans y2⟩
 ·obtain ⟨es1, c1, hb1, e0, he0, hk0⟩ := hk
  rw [hb] at hb1
  cases hb1
  obtain ⟨e, he, hek⟩ := h3 e0 he0
  exact ⟨es', c', putObj_at hlt, e, he, hek.trans hk0⟩
theorem map_get {b : Nat} {w : World} (h : MapOk b w) (hp : ∀ x ∈ tab, Pr b (sgv x.1 x.2.1) w) {s g : List UInt8} (hs : s.length ≤ maxLen) (hg : g.length = 16) :
    (Instr.lookup 91 (.map (some b)) (sgv s g) false).run Tryz.prog w = .ok (.int .u8 (kindF s g)) w := by
 obtain ⟨es, c, hb, hes⟩ := h
 obtain ⟨l, hl⟩ := keyOf44 hs hg
 have hko : KeysOk Tryz.prog 90 es := fun e he => by
  obtain ⟨y, hy, h1, _⟩ := hes e he
  obtain ⟨_, h2, h3⟩ := tab_kind y hy
  rw [h1]; exact keyOf44 (by unfold maxLen; omega) h2
 obtain ⟨v, hr, hv⟩ := run_lookup und45 key44 hb hl hko (z := .int .u8 0) (by kernel_rfl)
 rw [hr]
 congr 1
 rcases hv with ⟨rfl, hn⟩ | ⟨e, he, hk, rfl⟩
 ·by_cases h0 : kindF s g = 0
  ·rw [h0]
  ·obtain ⟨x, hx, rfl, rfl⟩ := tab_all h0
   obtain ⟨es1, c1, hb1, e, he, hek⟩ := hp x hx
   rw [hb] at hb1
   cases hb1
   exact absurd hek (hn e he)
 ·obtain ⟨x, hx, h1, h2⟩ := hes e he
  rw [h1] at hk
  obtain ⟨rfl, rfl⟩ := sgv_inj hk
  rw [h2, (tab_kind x hx).1]

structure GK (B : Nat) (x y : World) : Prop where
 below : Below B x y
 ok : ∀ b, B ≤ b → MapOk b x → MapOk b y
 pr : ∀ b k, B ≤ b → Pr b k x → Pr b k y
theorem GK.refl (B : Nat) (x : World) : GK B x x := ⟨Below.refl _ _, fun _ _ h => h, fun _ _ _ h => h⟩
theorem GK.trans {B : Nat} {x y z : World} (h : GK B x y) (k : GK B y z) : GK B x z := ⟨h.below.trans k.below, fun b hb h' => k.ok b hb (h.ok b hb h'), fun b q hb h' => k.pr b q hb (h.pr b q hb h')⟩
theorem GK.of_below {B : Nat} {x y : World} (h : Below x.heap.size x y) (hB : B ≤ x.heap.size) : GK B x y := by
 refine ⟨h.mono hB, fun b _ ⟨es, c, hb, r⟩ => ?_, fun b k _ ⟨es, c, hb, r⟩ => ?_⟩
 ·exact ⟨es, c, (h.block b (Array.getElem?_eq_some_iff.1 hb).1).trans hb, r⟩
 ·exact ⟨es, c, (h.block b (Array.getElem?_eq_some_iff.1 hb).1).trans hb, r⟩
theorem GK.put {B b : Nat} {x y : World} (hb : B ≤ b) (hB : B ≤ x.heap.size) (h : Ch x y (fun i => i = b)) (hok : MapOk b y) (hpr : ∀ k, Pr b k x → Pr b k y) : GK B x y := by
 refine ⟨h.below (fun i _ e => by omega) hB, fun b' _ ⟨es, c, hb', r⟩ => ?_, fun b' k _ h' => ?_⟩
 ·by_cases e : b' = b
  ·subst e; exact hok
  ·exact ⟨es, c, (h.block b' (Array.getElem?_eq_some_iff.1 hb').1 e).trans hb', r⟩
 ·by_cases e : b' = b
  ·subst e; exact hpr k h'
  ·obtain ⟨es, c, hb', r⟩ := h'
   exact ⟨es, c, (h.block b' (Array.getElem?_eq_some_iff.1 hb').1 e).trans hb', r⟩
theorem map_round {b : Nat} {wr w3 : World} (hb3 : Below wr.heap.size wr w3) (h : MapOk b wr) (x : List UInt8 × List UInt8 × Int) (hx : x ∈ tab) :
    ∃ w4, (Instr.mapUpdate 91 (.map (some b)) (sgv x.1 x.2.1) (.int .u8 x.2.2)).run Tryz.prog w3 = .ok () w4 ∧ MapOk b w4 ∧ Pr b (sgv x.1 x.2.1) w4 ∧ (∀ k, Pr b k wr → Pr b k w4) ∧ Ch wr w4 (fun i => i = b) := by
 have G := GK.of_below (B := 0) hb3 (Nat.zero_le _)
 obtain ⟨w4, h1, h2, h3, h4, h5, h6⟩ := map_put (G.ok b (Nat.zero_le _) h) x hx
 exact ⟨w4, h1, h2, h3, fun k hk => h4 k (G.pr b k (Nat.zero_le _) hk), (Ch.of_below hb3 _).trans h5 (fun _ _ h => h)⟩
end Go.Proofs.YtmjpbmcbcppkfaaGreatDoor
namespace Go.Proofs.YtmjpbmcbcppkfaaGreatDoor
open Go.RowKit
set_option linter.unusedVariables false
set_option maxRecDepth 100000

def RKd (B : Nat) (i : Nat) (vs : Nat → Value) (w : World) : Prop :=
 match i with
 | 0 => ∃ b, vs 0 = .map (some b) ∧ B ≤ b ∧ MapOk b w
 | 1 => vs 1 = gv globalG
 | 2 => vs 2 = sgv nPK globalG
 | 3 => ∀ b, vs 0 = .map (some b) → B ≤ b → Pr b (sgv nPK globalG) w
 | 4 => vs 4 = gv globalG
 | 5 => vs 5 = sgv nKEK globalG
 | 6 => ∀ b, vs 0 = .map (some b) → B ≤ b → Pr b (sgv nKEK globalG) w
 | 7 => vs 7 = vs 0
 | 8 => vs 8 = vs 0
 | _ => True
theorem mem_tab (i : Nat) (h : i < 9 := by decide) : tab.getD i ([], [], 0) ∈ tab := by
 have h' : i < tab.length := h
 simp [List.getD, h']
theorem alloc_map_ok (w : World) : MapOk w.heap.size (w.alloc (.map #[] 0)) := ⟨#[], 0, heap_alloc_new w _, fun e he => by simp at he⟩

set_option maxHeartbeats 4000000 in
theorem kind_spec (s : ByteArray) (g : List UInt8) (w : World) (hs : s.size ≤ maxLen) (hg : g.length = 16) :
    Calls Tryz.prog 21 #[.string s, gv g] w fun e w' => e = .returned (.int .u8 (kindF s.data.toList g)) ∧ Below w.heap.size w w' := by
 have hcs : (bvs g).toArray.size = 16 := by simp [hg]
 have HG := Lib.hid hg; clear hg
 obtain ⟨cs, hc1, hc2⟩ : ∃ cs, gv g = .agg cs ∧ cs = (bvs g).toArray := ⟨_, rfl, rfl⟩
 have hcsz : cs.size = 16 := by rw [hc2]; exact hcs
 have gvg : Hid (gv g = .agg cs) := hc1
 rw [hc1]
 clear hc1 hc2 hcs
 obtain ⟨B, hB⟩ : ∃ B, B = (w.alloc (.cells cs 33)).heap.size := ⟨_, rfl⟩
 have hBs : B = w.heap.size + 1 := by rw [hB]; simp
 have HBS := Lib.hid hBs; clear hBs
 have HB := Lib.hid hB; clear hB
 have hblk : Hid (∀ w2, Below B (w.alloc (.cells cs 33)).drew w2 → w2.heap[w.heap.size]? = some (.cells cs 33)) := fun w2 h => (h.block _ (by rw [HBS.out]; omega)).trans (heap_alloc_new w _)
 go_enter Tryz.func21, Tryz.ntmps21
 go_wp2_with fail
 refine wp_region_rg (by kernel_rfl) (by kernel_rfl) (by kernel_rfl) (GK B) (RKd B) (GK.refl _ _) (fun _ _ _ h k => h.trans k) ?_ ?_ ?_ ?_
 ·intro i vs a b _ hG h
  match i, h with
  | 0, ⟨b', h1, h2, h3⟩ => exact ⟨b', h1, h2, hG.ok b' h2 h3⟩
  | 1, h => exact h
  | 2, h => exact h
  | 3, h => exact fun b' h1 h2 => hG.pr b' _ h2 (h b' h1 h2)
  | 4, h => exact h
  | 5, h => exact h
  | 6, h => exact fun b' h1 h2 => hG.pr b' _ h2 (h b' h1 h2)
  | 7, h => exact h
  | 8, h => exact h
  | i + 9, h => trivial
 ·intro i vs us a _ h hR
  match i, h, hR with
  | 0, h, ⟨b', h1, h2⟩ => exact ⟨b', (h 0 (.inl rfl)).symm.trans h1, h2⟩
  | 1, h, hR => exact (h 1 (.inl rfl)).symm.trans hR
  | 2, h, hR => exact (h 2 (.inl rfl)).symm.trans hR
  | 3, h, hR => exact fun b' h1 h2 => hR b' ((h 0 (.inr (by kernel_rfl))).trans h1) h2
  | 4, h, hR => exact (h 4 (.inl rfl)).symm.trans hR
  | 5, h, hR => exact (h 5 (.inl rfl)).symm.trans hR
  | 6, h, hR => exact fun b' h1 h2 => hR b' ((h 0 (.inr (by kernel_rfl))).trans h1) h2
  | 7, h, hR => exact ((h 7 (.inl rfl)).symm.trans hR).trans (h 0 (.inr (by kernel_rfl)))
  | 8, h, hR => exact ((h 8 (.inl rfl)).symm.trans hR).trans (h 0 (.inr (by kernel_rfl)))
  | i + 9, h, hR => trivial
 ·intro i op ho x vs w2 hG hdf hdep hown
  have hsz : B ≤ w2.heap.size := by have := hG.below.size; rw [HBS.out]; simp at this; omega
  match i, ho with
  | 0, ho =>
   obtain rfl := Option.some.inj ho
   refine wpOp_wp rfl rfl (wp_val (exec_makeMap rfl) ⟨_, rfl, GK.of_below ((Below.refl _ w2).alloc (Nat.le_refl _) _) hsz, fun us hu _ => ⟨_, hu, hsz, alloc_map_ok w2⟩⟩)
  | 1, ho =>
   obtain rfl := Option.some.inj ho
   refine wpOp_wp rfl rfl (wpv_call rfl Tryz.call31 (args := #[]) (by simp) ?_)
   refine (global_spec w2).mono ?_
   rintro e w3 ⟨rfl, hb⟩
   exact ⟨_, rfl, _, rfl, GK.of_below hb hsz, fun us hu _ => hu⟩
  | 2, ho =>
   obtain rfl := Option.some.inj ho
   have h1 := hdep 1 (by kernel_rfl)
   have e1 : x.tmps.getD 11 undef = gv globalG := (h1.2 11 rfl).trans h1.1
   exact wpOp_wp rfl rfl (wp_val (exec_build (ps := #[(0, .string (strOf nPK)), (1, gv globalG)]) rfl (by simp only [List.map_toArray, List.map_cons, List.map_nil]; rw [show x.eval (.tmp 11) = _ from e1]; rfl) (build44 nPK globalG rfl w2)) ⟨_, rfl, GK.refl _ _, fun us hu _ => hu⟩)
  | 3, ho =>
   obtain rfl := Option.some.inj ho
   have h0 := hdep 0 (by kernel_rfl)
   have h2 := hdep 2 (by kernel_rfl)
   obtain ⟨b, hb1, hb2, hb3⟩ := h0.1
   obtain ⟨w3, hr, o1, o2, o3, o4, o5⟩ := map_put hb3 (nPK, globalG, 1) (by simp [tab])
   refine wpOp_wp rfl rfl (wpv_skip (v' := undef) (exec_mapUpdate (m := .tmp 10) (x := .tmp 12) (y := .const (.int .u8 1)) (.inr rfl) ((h0.2 10 rfl).trans hb1) ((h2.2 12 rfl).trans h2.1) rfl hr) rfl ⟨undef, rfl, GK.put hb2 hsz o4 o1 o3, fun us _ hu b' h1 h2 => ?_⟩)
   have : vs 0 = .map (some b') := (hu 0 (by omega)).symm.trans h1
   rw [hb1] at this
   cases this
   exact o2
  | 4, ho =>
   obtain rfl := Option.some.inj ho
   refine wpOp_wp rfl rfl (wpv_call rfl Tryz.call31 (args := #[]) (by simp) ?_)
   refine (global_spec w2).mono ?_
   rintro e w3 ⟨rfl, hb⟩
   exact ⟨_, rfl, _, rfl, GK.of_below hb hsz, fun us hu _ => hu⟩
  | 5, ho =>
   obtain rfl := Option.some.inj ho
   have h1 := hdep 4 (by kernel_rfl)
   have e1 : x.tmps.getD 13 undef = gv globalG := (h1.2 13 rfl).trans h1.1
   exact wpOp_wp rfl rfl (wp_val (exec_build (ps := #[(0, .string (strOf nKEK)), (1, gv globalG)]) rfl (by simp only [List.map_toArray, List.map_cons, List.map_nil]; rw [show x.eval (.tmp 13) = _ from e1]; rfl) (build44 nKEK globalG rfl w2)) ⟨_, rfl, GK.refl _ _, fun us hu _ => hu⟩)
  | 6, ho =>
   obtain rfl := Option.some.inj ho
   have h0 := hdep 0 (by kernel_rfl)
   have h2 := hdep 5 (by kernel_rfl)
   obtain ⟨b, hb1, hb2, hb3⟩ := h0.1
   obtain ⟨w3, hr, o1, o2, o3, o4, o5⟩ := map_put hb3 (nKEK, globalG, 2) (by simp [tab])
   refine wpOp_wp rfl rfl (wpv_skip (v' := undef) (exec_mapUpdate (m := .tmp 10) (x := .tmp 14) (y := .const (.int .u8 2)) (.inr rfl) ((h0.2 10 rfl).trans hb1) ((h2.2 14 rfl).trans h2.1) rfl hr) rfl ⟨undef, rfl, GK.put hb2 hsz o4 o1 o3, fun us _ hu b' h1 h2 => ?_⟩)
   have : vs 0 = .map (some b') := (hu 0 (by omega)).symm.trans h1
   rw [hb1] at this
   cases this
   exact o2
  | 7, ho =>
   obtain rfl := Option.some.inj ho
   have h0 := hdep 0 (by kernel_rfl)
   exact wpOp_wp rfl rfl (wp_val (exec_move (x := .tmp 10) rfl (h0.2 10 rfl)) ⟨_, rfl, GK.refl _ _, fun us hu hu' => hu.trans (hu' 0 (by omega)).symm⟩)
  | 8, ho =>
   obtain rfl := Option.some.inj ho
   have h0 := hdep 7 (by kernel_rfl)
   exact wpOp_wp rfl rfl (wp_val (exec_assign (x := .tmp 15) rfl (h0.2 15 rfl)) ⟨_, rfl, GK.refl _ _, fun us hu hu' => (hu.trans h0.1).trans (hu' 0 (by omega)).symm⟩)
  | i + 9, ho => simp at ho
 ·intro vs w2 hG hR
  obtain ⟨b, hb1, hb2, hb3⟩ := hR 0 (by simp)
  have hp1 := hR 3 (by simp) b hb1 hb2
  have hp2 := hR 6 (by simp) b hb1 hb2
  have e7 := hR 7 (by simp)
  have e8 := hR 8 (by simp)
  have e1 := hR 1 (by simp)
  have e2 := hR 2 (by simp)
  have e4 := hR 4 (by simp)
  have e5 := hR 5 (by simp)
  simp only [RKd] at e7 e8 e1 e2 e4 e5
  rw [putL_list]
  simp only [List.map_cons, List.map_nil, putV, Nat.reduceAdd, Act.put, List.setIfInBounds_toArray, List.set_cons_succ, List.set_cons_zero, e8, e7, hb1]
  clear e1 e2 e4 e5 e7 e8 hR hb1
  have hbw : Below w.heap.size w w2 := (((Below.refl _ w).alloc (Nat.le_refl _) (.cells cs 33)).drew).trans (hG.below.mono (by rw [HBS.out]; omega))
  have hbc := hblk.out w2 hG.below
  have hsz2 : B ≤ w2.heap.size := by have := hG.below.size; rw [HBS.out]; simp at this; omega
  have HBW := Lib.hid hbw; clear hbw
  have HBC := Lib.hid hbc; clear hbc hG
  have hbne : b < w2.heap.size := by obtain ⟨es, c, hb, _⟩ := hb3; exact (Array.getElem?_eq_some_iff.1 hb).1
  have hp12 : ∀ m, m < 2 → Pr b (sgv (tab.getD m ([], [], 0)).1 (tab.getD m ([], [], 0)).2.1) w2 := fun m hm => by
   match m, hm with
   | 0, _ => exact hp1
   | 1, _ => exact hp2
  have hex1 := fun o : Obj => GK.of_below (B := 0) ((Below.refl _ w2).alloc (Nat.le_refl _) o) (Nat.zero_le _)
  have ATOK1 : Hid (∀ o : Obj, MapOk b (w2.alloc o)) := fun o => (hex1 o).ok b (Nat.zero_le _) hb3
  have ATPR1 : Hid (∀ o : Obj, ∀ m, m < 2 → Pr b (sgv (tab.getD m ([], [], 0)).1 (tab.getD m ([], [], 0)).2.1) (w2.alloc o)) := fun o m hm => (hex1 o).pr b _ (Nat.zero_le _) (hp12 m hm)
  have ATB1 : Hid (∀ o : Obj, Below w.heap.size w (w2.alloc o)) := fun o => HBW.out.alloc HBW.out.size o
  have ATC1 : Hid (∀ o : Obj, (w2.alloc o).heap[w.heap.size]? = some (.cells cs 33)) := fun o => (Below.heap_alloc w2 o _ (by have := HBS.out; omega)).trans HBC.out
  clear hex1
  clear hp1 hp2 hb3 hp12
  have hne : b ≠ w.heap.size := by have := HBS.out; omega
  go_wp2_with fail
  go_loopw [18] (fun i wr => ∃ j : Nat, j ≤ 4 ∧ i = .int .i64 j ∧ wr.heap[w2.heap.size]? = some (.cells #[.string ⟨#[83, 101, 116, 117, 112, 77, 111, 100, 101]⟩, .string ⟨#[83, 101, 99, 117, 114, 101, 66, 111, 111, 116]⟩, .string ⟨#[65, 117, 100, 105, 116, 77, 111, 100, 101]⟩, .string ⟨#[68, 101, 112, 108, 111, 121, 101, 100, 77, 111, 100, 101]⟩] 9) ∧ MapOk b wr ∧ (∀ m, m < 2 + j → Pr b (sgv (tab.getD m ([], [], 0)).1 (tab.getD m ([], [], 0)).2.1) wr) ∧ Below w.heap.size w wr ∧ wr.heap[w.heap.size]? = some (.cells cs 33) ∧ B ≤ wr.heap.size ∧ w2.heap.size < wr.heap.size) (fun i _ => 4 - (intOf i).toNat)
  case atStart => exact ⟨0, by omega, rfl, heap_alloc_new _ _, ATOK1.out _, ATPR1.out _, ATB1.out _, ATC1.out _, by simp; omega, by simp⟩
  case round =>
   obtain ⟨j, hj, rfl, hrn, hro, hrp, hrb, hrc, hrs1, hrsb1⟩ := hrel
   have HRN1 := Lib.hid hrn; clear hrn
   have HRO1 := Lib.hid hro; clear hro
   have HRP1 := Lib.hid hrp; clear hrp
   have HRB1 := Lib.hid hrb; clear hrb
   have HRC1 := Lib.hid hrc; clear hrc
   by_cases hlt : j < 4
   ·have hbsb : b ≠ w2.heap.size := by rintro e; obtain ⟨es, c, hb, _⟩ := HRO1.out; rw [e, HRN1.out] at hb; cases hb
    match j, hlt with
    | 0, _ =>
     have hc : wr.cell? ⟨w2.heap.size, 0, none⟩ = some (.string ⟨#[83, 101, 116, 117, 112, 77, 111, 100, 101]⟩) := by rw [cell_of_row wr w2.heap.size 0 _ _ _ HRN1.out]; rfl
     go_wp2_with (first
      | (go_at_call 31; refine (global_spec _).mono ?_; rintro e w3 ⟨rfl, hb3⟩; have HB3 := Lib.hid hb3; clear hb3)
      | ((with_reducible show wpList _ _ _ (Oper.mk _ (Op.build _ _) _ _ _ _ :: _) _ _); refine wpl_build rfl 90 _ rfl _ rfl _ (build44 nSetup globalG rfl _) ?_)
      | ((with_reducible show wpList _ _ _ (Oper.mk _ (Op.mapUpdate _ _ _ _) _ _ _ _ :: _) _ _); obtain ⟨w4, hr4, o1, o2, o3, o4⟩ := map_round HB3.out HRO1.out (nSetup, globalG, 4) (mem_tab 2); have hr5 : (Instr.mapUpdate 91 (.map (some b)) (sgv nSetup globalG) (.int .u8 4)).run Tryz.prog w3 = .ok () w4 := hr4; clear hr4; refine wpl_skip rfl (exec_mapUpdate (m := .tmp 22) (x := .tmp 25) (y := .const (.int .u8 4)) (.inl rfl) rfl rfl rfl hr5) ?_; have O1 := Lib.hid o1; have O2 := Lib.hid o2; have O3 := Lib.hid o3; have O4 := Lib.hid o4; clear o1 o2 o3 o4 hr5))
     go_roundw
     case rel =>
      refine ⟨1, by omega, by go_num, (O4.out.block _ hrsb1 (Ne.symm hbsb)).trans HRN1.out, O1.out, fun m hm => ?_, HRB1.out.trans (O4.out.below (fun i hi e => by subst e; have := HBS.out; omega) HRB1.out.size), (O4.out.block _ (by have := HBS.out; omega) (Ne.symm hne)).trans HRC1.out, Nat.le_trans hrs1 O4.out.size, Nat.lt_of_lt_of_le hrsb1 O4.out.size⟩
      by_cases hm' : m < 2 + 0
      ·exact O3.out _ (HRP1.out m hm')
      ·obtain rfl : m = 2 := by omega
       exact O2.out
     case measure => simp [intOf]
    | 1, _ =>
     have hc : wr.cell? ⟨w2.heap.size, 1, none⟩ = some (.string ⟨#[83, 101, 99, 117, 114, 101, 66, 111, 111, 116]⟩) := by rw [cell_of_row wr w2.heap.size 1 _ _ _ HRN1.out]; rfl
     go_wp2_with (first
      | (go_at_call 31; refine (global_spec _).mono ?_; rintro e w3 ⟨rfl, hb3⟩; have HB3 := Lib.hid hb3; clear hb3)
      | ((with_reducible show wpList _ _ _ (Oper.mk _ (Op.build _ _) _ _ _ _ :: _) _ _); refine wpl_build rfl 90 _ rfl _ rfl _ (build44 nSecure globalG rfl _) ?_)
      | ((with_reducible show wpList _ _ _ (Oper.mk _ (Op.mapUpdate _ _ _ _) _ _ _ _ :: _) _ _); obtain ⟨w4, hr4, o1, o2, o3, o4⟩ := map_round HB3.out HRO1.out (nSecure, globalG, 4) (mem_tab 3); have hr5 : (Instr.mapUpdate 91 (.map (some b)) (sgv nSecure globalG) (.int .u8 4)).run Tryz.prog w3 = .ok () w4 := hr4; clear hr4; refine wpl_skip rfl (exec_mapUpdate (m := .tmp 22) (x := .tmp 25) (y := .const (.int .u8 4)) (.inl rfl) rfl rfl rfl hr5) ?_; have O1 := Lib.hid o1; have O2 := Lib.hid o2; have O3 := Lib.hid o3; have O4 := Lib.hid o4; clear o1 o2 o3 o4 hr5))
     go_roundw
     case rel =>
      refine ⟨2, by omega, by go_num, (O4.out.block _ hrsb1 (Ne.symm hbsb)).trans HRN1.out, O1.out, fun m hm => ?_, HRB1.out.trans (O4.out.below (fun i hi e => by subst e; have := HBS.out; omega) HRB1.out.size), (O4.out.block _ (by have := HBS.out; omega) (Ne.symm hne)).trans HRC1.out, Nat.le_trans hrs1 O4.out.size, Nat.lt_of_lt_of_le hrsb1 O4.out.size⟩
      by_cases hm' : m < 2 + 1
      ·exact O3.out _ (HRP1.out m hm')
      ·obtain rfl : m = 3 := by omega
       exact O2.out
     case measure => simp [intOf]
    | 2, _ =>
     have hc : wr.cell? ⟨w2.heap.size, 2, none⟩ = some (.string ⟨#[65, 117, 100, 105, 116, 77, 111, 100, 101]⟩) := by rw [cell_of_row wr w2.heap.size 2 _ _ _ HRN1.out]; rfl
     go_wp2_with (first
      | (go_at_call 31; refine (global_spec _).mono ?_; rintro e w3 ⟨rfl, hb3⟩; have HB3 := Lib.hid hb3; clear hb3)
      | ((with_reducible show wpList _ _ _ (Oper.mk _ (Op.build _ _) _ _ _ _ :: _) _ _); refine wpl_build rfl 90 _ rfl _ rfl _ (build44 nAudit globalG rfl _) ?_)
      | ((with_reducible show wpList _ _ _ (Oper.mk _ (Op.mapUpdate _ _ _ _) _ _ _ _ :: _) _ _); obtain ⟨w4, hr4, o1, o2, o3, o4⟩ := map_round HB3.out HRO1.out (nAudit, globalG, 4) (mem_tab 4); have hr5 : (Instr.mapUpdate 91 (.map (some b)) (sgv nAudit globalG) (.int .u8 4)).run Tryz.prog w3 = .ok () w4 := hr4; clear hr4; refine wpl_skip rfl (exec_mapUpdate (m := .tmp 22) (x := .tmp 25) (y := .const (.int .u8 4)) (.inl rfl) rfl rfl rfl hr5) ?_; have O1 := Lib.hid o1; have O2 := Lib.hid o2; have O3 := Lib.hid o3; have O4 := Lib.hid o4; clear o1 o2 o3 o4 hr5))
     go_roundw
     case rel =>
      refine ⟨3, by omega, by go_num, (O4.out.block _ hrsb1 (Ne.symm hbsb)).trans HRN1.out, O1.out, fun m hm => ?_, HRB1.out.trans (O4.out.below (fun i hi e => by subst e; have := HBS.out; omega) HRB1.out.size), (O4.out.block _ (by have := HBS.out; omega) (Ne.symm hne)).trans HRC1.out, Nat.le_trans hrs1 O4.out.size, Nat.lt_of_lt_of_le hrsb1 O4.out.size⟩
      by_cases hm' : m < 2 + 2
      ·exact O3.out _ (HRP1.out m hm')
      ·obtain rfl : m = 4 := by omega
       exact O2.out
     case measure => simp [intOf]
    | 3, _ =>
     have hc : wr.cell? ⟨w2.heap.size, 3, none⟩ = some (.string ⟨#[68, 101, 112, 108, 111, 121, 101, 100, 77, 111, 100, 101]⟩) := by rw [cell_of_row wr w2.heap.size 3 _ _ _ HRN1.out]; rfl
     go_wp2_with (first
      | (go_at_call 31; refine (global_spec _).mono ?_; rintro e w3 ⟨rfl, hb3⟩; have HB3 := Lib.hid hb3; clear hb3)
      | ((with_reducible show wpList _ _ _ (Oper.mk _ (Op.build _ _) _ _ _ _ :: _) _ _); refine wpl_build rfl 90 _ rfl _ rfl _ (build44 nDeployed globalG rfl _) ?_)
      | ((with_reducible show wpList _ _ _ (Oper.mk _ (Op.mapUpdate _ _ _ _) _ _ _ _ :: _) _ _); obtain ⟨w4, hr4, o1, o2, o3, o4⟩ := map_round HB3.out HRO1.out (nDeployed, globalG, 4) (mem_tab 5); have hr5 : (Instr.mapUpdate 91 (.map (some b)) (sgv nDeployed globalG) (.int .u8 4)).run Tryz.prog w3 = .ok () w4 := hr4; clear hr4; refine wpl_skip rfl (exec_mapUpdate (m := .tmp 22) (x := .tmp 25) (y := .const (.int .u8 4)) (.inl rfl) rfl rfl rfl hr5) ?_; have O1 := Lib.hid o1; have O2 := Lib.hid o2; have O3 := Lib.hid o3; have O4 := Lib.hid o4; clear o1 o2 o3 o4 hr5))
     go_roundw
     case rel =>
      refine ⟨4, by omega, by go_num, (O4.out.block _ hrsb1 (Ne.symm hbsb)).trans HRN1.out, O1.out, fun m hm => ?_, HRB1.out.trans (O4.out.below (fun i hi e => by subst e; have := HBS.out; omega) HRB1.out.size), (O4.out.block _ (by have := HBS.out; omega) (Ne.symm hne)).trans HRC1.out, Nat.le_trans hrs1 O4.out.size, Nat.lt_of_lt_of_le hrsb1 O4.out.size⟩
      by_cases hm' : m < 2 + 3
      ·exact O3.out _ (HRP1.out m hm')
      ·obtain rfl : m = 5 := by omega
       exact O2.out
     case measure => simp [intOf]
   ·obtain rfl : j = 4 := by omega
    obtain ⟨wo, rfl⟩ : ∃ wo : World, wo = wr := ⟨_, rfl⟩
    have hex2 := fun o : Obj => GK.of_below (B := 0) ((Below.refl _ wo).alloc (Nat.le_refl _) o) (Nat.zero_le _)
    have ATOK2 : Hid (∀ o : Obj, MapOk b (wo.alloc o)) := fun o => (hex2 o).ok b (Nat.zero_le _) HRO1.out
    have ATPR2 : Hid (∀ o : Obj, ∀ m, m < 6 → Pr b (sgv (tab.getD m ([], [], 0)).1 (tab.getD m ([], [], 0)).2.1) (wo.alloc o)) := fun o m hm => (hex2 o).pr b _ (Nat.zero_le _) (HRP1.out m hm)
    have ATB2 : Hid (∀ o : Obj, Below w.heap.size w (wo.alloc o)) := fun o => HRB1.out.alloc HRB1.out.size o
    have ATC2 : Hid (∀ o : Obj, (wo.alloc o).heap[w.heap.size]? = some (.cells cs 33)) := fun o => (Below.heap_alloc wo o _ (by have := HBS.out; omega)).trans HRC1.out
    clear hex2
    go_wp2_with fail
    go_loopw [29] (fun i wr => ∃ j : Nat, j ≤ 3 ∧ i = .int .i64 j ∧ wr.heap[wo.heap.size]? = some (.cells #[.string ⟨#[100, 98]⟩, .string ⟨#[100, 98, 120]⟩, .string ⟨#[100, 98, 116]⟩] 9) ∧ MapOk b wr ∧ (∀ m, m < 6 + j → Pr b (sgv (tab.getD m ([], [], 0)).1 (tab.getD m ([], [], 0)).2.1) wr) ∧ Below w.heap.size w wr ∧ wr.heap[w.heap.size]? = some (.cells cs 33) ∧ B ≤ wr.heap.size ∧ wo.heap.size < wr.heap.size) (fun i _ => 3 - (intOf i).toNat)
    case atStart => exact ⟨0, by omega, rfl, heap_alloc_new _ _, ATOK2.out _, ATPR2.out _, ATB2.out _, ATC2.out _, by simp; omega, by simp⟩
    case round =>
     obtain ⟨j, hj, rfl, hrn, hro, hrp, hrb, hrc, hrs2, hrsb2⟩ := hrel
     have HRN2 := Lib.hid hrn; clear hrn
     have HRO2 := Lib.hid hro; clear hro
     have HRP2 := Lib.hid hrp; clear hrp
     have HRB2 := Lib.hid hrb; clear hrb
     have HRC2 := Lib.hid hrc; clear hrc
     by_cases hlt : j < 3
     ·have hbsb : b ≠ wo.heap.size := by rintro e; obtain ⟨es, c, hb, _⟩ := HRO2.out; rw [e, HRN2.out] at hb; cases hb
      match j, hlt with
      | 0, _ =>
       have hc : wr.cell? ⟨wo.heap.size, 0, none⟩ = some (.string ⟨#[100, 98]⟩) := by rw [cell_of_row wr wo.heap.size 0 _ _ _ HRN2.out]; rfl
       go_wp2_with (first
        | (go_at_call 37; refine (security_spec _).mono ?_; rintro e w3 ⟨rfl, hb3⟩; have HB3 := Lib.hid hb3; clear hb3)
        | ((with_reducible show wpList _ _ _ (Oper.mk _ (Op.build _ _) _ _ _ _ :: _) _ _); refine wpl_build rfl 90 _ rfl _ rfl _ (build44 nDb securityG rfl _) ?_)
        | ((with_reducible show wpList _ _ _ (Oper.mk _ (Op.mapUpdate _ _ _ _) _ _ _ _ :: _) _ _); obtain ⟨w4, hr4, o1, o2, o3, o4⟩ := map_round HB3.out HRO2.out (nDb, securityG, 3) (mem_tab 6); have hr5 : (Instr.mapUpdate 91 (.map (some b)) (sgv nDb securityG) (.int .u8 3)).run Tryz.prog w3 = .ok () w4 := hr4; clear hr4; refine wpl_skip rfl (exec_mapUpdate (m := .tmp 33) (x := .tmp 36) (y := .const (.int .u8 3)) (.inl rfl) rfl rfl rfl hr5) ?_; have O1 := Lib.hid o1; have O2 := Lib.hid o2; have O3 := Lib.hid o3; have O4 := Lib.hid o4; clear o1 o2 o3 o4 hr5))
       go_roundw
       case rel =>
        refine ⟨1, by omega, by go_num, (O4.out.block _ hrsb2 (Ne.symm hbsb)).trans HRN2.out, O1.out, fun m hm => ?_, HRB2.out.trans (O4.out.below (fun i hi e => by subst e; have := HBS.out; omega) HRB2.out.size), (O4.out.block _ (by have := HBS.out; omega) (Ne.symm hne)).trans HRC2.out, Nat.le_trans hrs2 O4.out.size, Nat.lt_of_lt_of_le hrsb2 O4.out.size⟩
        by_cases hm' : m < 6 + 0
        ·exact O3.out _ (HRP2.out m hm')
        ·obtain rfl : m = 6 := by omega
         exact O2.out
       case measure => simp [intOf]
      | 1, _ =>
       have hc : wr.cell? ⟨wo.heap.size, 1, none⟩ = some (.string ⟨#[100, 98, 120]⟩) := by rw [cell_of_row wr wo.heap.size 1 _ _ _ HRN2.out]; rfl
       go_wp2_with (first
        | (go_at_call 37; refine (security_spec _).mono ?_; rintro e w3 ⟨rfl, hb3⟩; have HB3 := Lib.hid hb3; clear hb3)
        | ((with_reducible show wpList _ _ _ (Oper.mk _ (Op.build _ _) _ _ _ _ :: _) _ _); refine wpl_build rfl 90 _ rfl _ rfl _ (build44 nDbx securityG rfl _) ?_)
        | ((with_reducible show wpList _ _ _ (Oper.mk _ (Op.mapUpdate _ _ _ _) _ _ _ _ :: _) _ _); obtain ⟨w4, hr4, o1, o2, o3, o4⟩ := map_round HB3.out HRO2.out (nDbx, securityG, 3) (mem_tab 7); have hr5 : (Instr.mapUpdate 91 (.map (some b)) (sgv nDbx securityG) (.int .u8 3)).run Tryz.prog w3 = .ok () w4 := hr4; clear hr4; refine wpl_skip rfl (exec_mapUpdate (m := .tmp 33) (x := .tmp 36) (y := .const (.int .u8 3)) (.inl rfl) rfl rfl rfl hr5) ?_; have O1 := Lib.hid o1; have O2 := Lib.hid o2; have O3 := Lib.hid o3; have O4 := Lib.hid o4; clear o1 o2 o3 o4 hr5))
       go_roundw
       case rel =>
        refine ⟨2, by omega, by go_num, (O4.out.block _ hrsb2 (Ne.symm hbsb)).trans HRN2.out, O1.out, fun m hm => ?_, HRB2.out.trans (O4.out.below (fun i hi e => by subst e; have := HBS.out; omega) HRB2.out.size), (O4.out.block _ (by have := HBS.out; omega) (Ne.symm hne)).trans HRC2.out, Nat.le_trans hrs2 O4.out.size, Nat.lt_of_lt_of_le hrsb2 O4.out.size⟩
        by_cases hm' : m < 6 + 1
        ·exact O3.out _ (HRP2.out m hm')
        ·obtain rfl : m = 7 := by omega
         exact O2.out
       case measure => simp [intOf]
      | 2, _ =>
       have hc : wr.cell? ⟨wo.heap.size, 2, none⟩ = some (.string ⟨#[100, 98, 116]⟩) := by rw [cell_of_row wr wo.heap.size 2 _ _ _ HRN2.out]; rfl
       go_wp2_with (first
        | (go_at_call 37; refine (security_spec _).mono ?_; rintro e w3 ⟨rfl, hb3⟩; have HB3 := Lib.hid hb3; clear hb3)
        | ((with_reducible show wpList _ _ _ (Oper.mk _ (Op.build _ _) _ _ _ _ :: _) _ _); refine wpl_build rfl 90 _ rfl _ rfl _ (build44 nDbt securityG rfl _) ?_)
        | ((with_reducible show wpList _ _ _ (Oper.mk _ (Op.mapUpdate _ _ _ _) _ _ _ _ :: _) _ _); obtain ⟨w4, hr4, o1, o2, o3, o4⟩ := map_round HB3.out HRO2.out (nDbt, securityG, 3) (mem_tab 8); have hr5 : (Instr.mapUpdate 91 (.map (some b)) (sgv nDbt securityG) (.int .u8 3)).run Tryz.prog w3 = .ok () w4 := hr4; clear hr4; refine wpl_skip rfl (exec_mapUpdate (m := .tmp 33) (x := .tmp 36) (y := .const (.int .u8 3)) (.inl rfl) rfl rfl rfl hr5) ?_; have O1 := Lib.hid o1; have O2 := Lib.hid o2; have O3 := Lib.hid o3; have O4 := Lib.hid o4; clear o1 o2 o3 o4 hr5))
       go_roundw
       case rel =>
        refine ⟨3, by omega, by go_num, (O4.out.block _ hrsb2 (Ne.symm hbsb)).trans HRN2.out, O1.out, fun m hm => ?_, HRB2.out.trans (O4.out.below (fun i hi e => by subst e; have := HBS.out; omega) HRB2.out.size), (O4.out.block _ (by have := HBS.out; omega) (Ne.symm hne)).trans HRC2.out, Nat.le_trans hrs2 O4.out.size, Nat.lt_of_lt_of_le hrsb2 O4.out.size⟩
        by_cases hm' : m < 6 + 2
        ·exact O3.out _ (HRP2.out m hm')
        ·obtain rfl : m = 8 := by omega
         exact O2.out
       case measure => simp [intOf]
     ·obtain rfl : j = 3 := by omega
      have hall : ∀ x ∈ tab, Pr b (sgv x.1 x.2.1) wr := fun x hx => by
       obtain ⟨m, hm, rfl⟩ := List.mem_iff_getElem.1 hx
       have := HRP2.out m hm
       simpa [List.getD, hm] using this
      have hget := map_get HRO2.out hall (s := s.data.toList) (by simpa using hs) HG.out
      have HGET := Lib.hid hget; clear hget hall
      go_wp2_with (first
       | ((with_reducible show wpList _ _ _ (Oper.mk _ (Op.load _ _) _ _ _ _ :: _) _ _); refine wpl_load_agg rfl 33 _ rfl TG ⟨w.heap.size, 0, none⟩ rfl (cs := cs.toList) (by simpa using hcsz) (cells_of_block HRC2.out) ?_)
       | ((with_reducible show wpList _ _ _ (Oper.mk _ (Op.build _ _) _ _ _ _ :: _) _ _); refine wpl_build rfl 90 _ rfl _ rfl (sgv s.data.toList g) (by have h := build44 s.data.toList g HG.out wr; rw [gvg.out, strOf_toList] at h; exact h) ?_)
       | ((with_reducible show wpList _ _ _ (Oper.mk _ (Op.lookup _ _ _ _) _ _ _ _ :: _) _ _); refine wpl_run rfl _ (exec_lookup rfl rfl rfl HGET.out) ?_))
      go_ret
      exact ⟨rfl, HRB2.out⟩
end Go.Proofs.YtmjpbmcbcppkfaaGreatDoor
namespace Go.Proofs.YtmjpbmcbcppkfaaGreatDoor
open Go.RowKit
set_option linter.unusedVariables false
set_option linter.unusedSimpArgs false
set_option maxRecDepth 100000
set_option maxHeartbeats 1500000
theorem spec_calls {f : FuncId} {args : List AV} {u : Value} (h : ∀ (E : Env) (w : World) (cargs : List Value), reps E w args cargs → Calls Tryz.prog f cargs.toArray w fun e w' => e = .returned u ∧ Below w.heap.size w w') : Spec Tryz.prog f args [] (pms (.val u) [] []) := by
 intro w E cargs hr ha
 refine (h E w cargs ha).mono fun e w' ⟨h1, hb⟩ => ?_
 have X : Ext E E w w' := ⟨fun _ => Nat.le_refl _, fun _ _ => rfl, fun _ _ => Iff.rfl, fun _ _ h => h, fun z b hz => hb.block _ (hr.zlt z b hz), fun k cur T fz hk => ⟨cur, T, fz, (hb.block _ ((Array.getElem?_eq_some_iff.1 hk).1)).trans hk, Nat.le_refl _⟩, fun _ _ _ _ h => h⟩
 exact ⟨u, .val u, [], E, h1, ⟨[], rfl, rfl, trivial⟩, by rw [rep], ⟨by simp, by simp, by simp, by simp, fun z b hz => Nat.lt_of_lt_of_le (hr.zlt z b hz) hb.size, by simp, hr.top, hr.gl.ext X, by simp⟩, X, fun z b h => .inl h, Nat.le_refl _, by simp, ⟨hb.os, hb.tape, hb.output, hb.size, fun k hk _ => hb.block _ hk, X.grow, by simp⟩⟩
theorem kind_vc (s : ByteArray) (hs : s.size ≤ 140737488355328) (g : List UInt8) (hg : g.length = 16) : Spec Tryz.prog 21 [.val (.string s), .agg (bytesA 16 g)] [] (pms (.val (.int .u8 (kindF s.data.toList g))) [] []) := by
 refine spec_calls fun E w cargs ha => ?_
 simp only [reps, rep] at ha
 obtain ⟨_, _, rfl, rfl, v, _, rfl, ⟨cs, rfl, hcs⟩, rfl⟩ := ha
 have e : cs = bvs g := by
  have h1 := valsOf_sound (vs := (List.range 16).map fun i => bv (g.getD i 0)) (by rfl) hcs
  rw [h1, range_getD g 16 hg]
  rfl
 rw [e]
 exact kind_spec s g w (by unfold maxLen; omega) hg
theorem global_vc : Spec Tryz.prog 31 [] [] (pms (.agg (bytesA 16 globalG)) [] []) := by
 refine spec_entry tbOk Tryz.func31 rfl Tryz.ntmps31 Tryz.results31 ?_
 refine gg (k := ?_)
 exact ⟨_, rfl, rfl, trivial⟩
end Go.Proofs.YtmjpbmcbcppkfaaGreatDoor
