/- Maps that the call itself makes, told by the keys and values of their entries. Conditions: the premises of each law. -/
import Derived.Test.YtccelefolepmeaaEq
import Derived.Test.YtccelefolepmeaaRg
import Derived.Carry
import Derived.MapKept
namespace Go.Proofs.Ytccelefolepmeaa
open Go.RowKit

def putObj (w : World) (b : Nat) (o : Obj) : World := { w with heap := w.heap.setIfInBounds b o }
theorem putObj_ch (w : World) (b : Nat) (o : Obj) : Ch w (putObj w b o) (fun k => k = b) :=
  ⟨rfl, rfl, rfl, by simp [putObj], fun k _ hn => by simp [putObj, Array.getElem?_setIfInBounds_ne (Ne.symm hn)]⟩
theorem putObj_size (w : World) (b : Nat) (o : Obj) : (putObj w b o).heap.size = w.heap.size := by simp [putObj]
theorem putObj_at {w : World} {b : Nat} {o : Obj} (h : b < w.heap.size) : (putObj w b o).heap[b]? = some o := by simp [putObj, h]
section
variable {P : Program} {k : TypeId}
theorem run_get_map {w : World} {r : Nat} {es : Array MapEntry} {c : Nat} (hb : w.heap[r]? = some (.map es c)) : (getObj r).run P w = .ok (.map es c) w := MapKept.run_getObj_map hb
theorem run_set_map {w : World} {r : Nat} {es : Array MapEntry} {c : Nat} (o : Obj) (hb : w.heap[r]? = some (.map es c)) : (setObj r o).run P w = .ok () (putObj w r o) := MapKept.run_setObj_map o hb
/-- all keys can be read -/
def KeysOk (P : Program) (k : TypeId) (es : Array MapEntry) : Prop := ∀ e ∈ es, ∃ l, keyOf P k e.key = some l
theorem run_mapUpdate {T E : TypeId} (hT : P.underlying T = some (.map k E)) (K : Maps.Keyed P k) {w : World} {b : Nat} {es : Array MapEntry} {c : Nat} (hb : w.heap[b]? = some (.map es c)) {key v : Value} {l : Lit} (hk : keyOf P k key = some l) (hes : KeysOk P k es) :
    ∃ es' c', (Instr.mapUpdate T (.map (some b)) key v).run P w = .ok () (putObj w b (.map es' c')) ∧ KeysOk P k es' ∧ (∀ e ∈ es', (e.key = key ∧ e.val = v) ∨ ∃ e0 ∈ es, e.key = e0.key ∧ e.val = e0.val) ∧ (∃ e ∈ es', e.key = key) ∧ (∀ e0 ∈ es, ∃ e ∈ es', e.key = e0.key) := by
  have hchk := K.check w false hk
  have hes' : ∀ e ∈ es.toList, ∃ l, keyOf P k e.key = some l := fun e he => hes e (Array.mem_toList_iff.1 he)
  rcases K.find w hk es.toList hes' with ⟨hf, hn⟩ | ⟨j, e, hf, hj, hje⟩
  · refine ⟨es.push { key, val := v, born := c }, c + 1, ?_, ?_, ?_, ?_, ?_⟩
    · unfold Instr.mapUpdate
      simp [Sem.run_bind, run_underlying hT, run_get_map hb, hchk, hf, run_set_map _ hb]
    · intro e he
      rcases Array.mem_push.1 he with h | rfl
      · exact hes e h
      · exact ⟨l, hk⟩
    · intro e he
      rcases Array.mem_push.1 he with h | rfl
      · exact .inr ⟨e, h, rfl, rfl⟩
      · exact .inl ⟨rfl, rfl⟩
    · exact ⟨_, Array.mem_push.2 (.inr rfl), rfl⟩
    · exact fun e0 he => ⟨e0, Array.mem_push.2 (.inl he), rfl⟩
  · have hja : es[j]? = some e := by simpa using hj
    have hjl := (Array.getElem?_eq_some_iff.1 hja).1
    have hst := K.stays w hk
    refine ⟨es.modify j fun e => { e with key, val := v }, c, ?_, ?_, ?_, ?_, ?_⟩
    · unfold Instr.mapUpdate
      simp [Sem.run_bind, run_underlying hT, run_get_map hb, hchk, hf, hja, hje, hst, run_set_map _ hb]
    · intro e' he
      obtain ⟨i, hi, rfl⟩ := Array.mem_iff_getElem.1 he
      simp only [Array.getElem_modify]
      split
      · exact ⟨l, hk⟩
      · exact hes _ (Array.getElem_mem _)
    · intro e' he
      obtain ⟨i, hi, rfl⟩ := Array.mem_iff_getElem.1 he
      simp only [Array.getElem_modify]
      split
      · exact .inl ⟨rfl, rfl⟩
      · exact .inr ⟨_, Array.getElem_mem _, rfl, rfl⟩
    · refine ⟨(es.modify j fun e => { e with key, val := v })[j]'(by simpa using hjl), Array.getElem_mem _, ?_⟩
      simp [Array.getElem_modify]
    · intro e0 he
      obtain ⟨i, hi, rfl⟩ := Array.mem_iff_getElem.1 he
      refine ⟨(es.modify j fun e => { e with key, val := v })[i]'(by simpa using hi), Array.getElem_mem _, ?_⟩
      simp only [Array.getElem_modify]
      split
      · rename_i h
        subst h
        have : es[j] = e := by simpa [hi] using hja
        simp [this, hje]
      · rfl
theorem run_lookup {T E : TypeId} (hT : P.underlying T = some (.map k E)) (K : Maps.Keyed P k) {w : World} {b : Nat} {es : Array MapEntry} {c : Nat} (hb : w.heap[b]? = some (.map es c)) {key : Value} {l : Lit} (hk : keyOf P k key = some l) (hes : KeysOk P k es) {z : Value} (hz : (zeroValue E).run P w = .ok z w) :
    ∃ v, (Instr.lookup T (.map (some b)) key false).run P w = .ok v w ∧ ((v = z ∧ ∀ e ∈ es, e.key ≠ key) ∨ ∃ e ∈ es, e.key = key ∧ e.val = v) := by
  have hchk := K.check w es.isEmpty hk
  have hes' : ∀ e ∈ es.toList, ∃ l, keyOf P k e.key = some l := fun e he => hes e (Array.mem_toList_iff.1 he)
  rcases K.find w hk es.toList hes' with ⟨hf, hn⟩ | ⟨j, e, hf, hj, hje⟩
  · refine ⟨z, ?_, .inl ⟨rfl, fun e he => hn e (Array.mem_toList_iff.2 he)⟩⟩
    unfold Instr.lookup
    simp [Sem.run_bind, run_underlying hT, run_get_map hb, hchk, hf, hz]
  · refine ⟨e.val, ?_, .inr ⟨e, Array.mem_toList_iff.1 (List.mem_of_getElem? hj), hje, rfl⟩⟩
    unfold Instr.lookup
    simp [Sem.run_bind, run_underlying hT, run_get_map hb, hchk, hf]
theorem exec_mapUpdate {o : Oper} {ρ : Operand → Value} {m x y : Operand} {w w' : World} {T : TypeId} (ho : o.op = .mapUpdate T m x y ∨ o.op = .insert T m x y) {mv kv v : Value} (hm : ρ m = mv) (hx : ρ x = kv) (hy : ρ y = v) (hr : (Instr.mapUpdate T mv kv v).run P w = .ok () w') : (execOp ρ o).run P w = .ok .skip w' := by
  unfold execOp
  rcases ho with ho | ho <;> simp only [ho, hm, hx, hy, Sem.run_bind, hr, Sem.run_pure, Result.andThen_ok]
theorem exec_lookup {o : Oper} {ρ : Operand → Value} {m x : Operand} {w : World} {T : TypeId} (ho : o.op = .lookup T m x false) {mv kv v : Value} (hm : ρ m = mv) (hx : ρ x = kv) (hr : (Instr.lookup T mv kv false).run P w = .ok v w) : (execOp ρ o).run P w = .ok (.value v) w := by
  unfold execOp; simp only [ho, hm, hx, Sem.run_bind, hr, Sem.run_pure, Result.andThen_ok]
theorem exec_build {o : Oper} {ρ : Operand → Value} {w : World} {t : TypeId} {parts : Array (Nat × Operand)} (ho : o.op = .build t parts) {ps : Array (Nat × Value)} (hp : parts.map (fun (i, x) => (i, ρ x)) = ps) {v : Value} (hr : (Instr.build t ps).run P w = .ok v w) : (execOp ρ o).run P w = .ok (.value v) w := by
  unfold execOp; simp only [ho, hp, Sem.run_bind, hr, Sem.run_pure, Result.andThen_ok]
theorem exec_makeMap {o : Oper} {ρ : Operand → Value} {w : World} {t : TypeId} (ho : o.op = .makeMap t none) : (execOp ρ o).run P w = .ok (.value (.map (some w.heap.size))) (w.alloc (.map #[] 0)) := by
  unfold execOp
  have := @run_makeMap P t w
  simp only [ho, Option.map_none, Sem.run_bind, this, Sem.run_pure, Result.andThen_ok]
end
end Go.Proofs.Ytccelefolepmeaa
