/- Openers for a law's arguments: byte slices, arrays of bytes. Conditions: the premises of each. -/
import Derived.Test.YtjfenbkhgamidaaEq
import Derived.ProofKit
import Derived.OpenShut
import Derived.ShutString
import Derived.ChangeOld
namespace Go.Proofs.Ytjfenbkhgamidaa
open Go.ChangeShapes Go.WideShapes Go.ChangeAt Go.RowKit
open Go.ChangeMaps (open_string shut_string)
theorem bvs_of_all : ∀ (l : List Value), (∀ i, i < l.length → ∃ b : UInt8, l[i]? = some (bv b)) → ∃ g, l = bvs g
  | [], _ => ⟨[], rfl⟩
  | x :: l, h => by
    obtain ⟨b, hb⟩ := h 0 (by simp)
    obtain ⟨g, hg⟩ := bvs_of_all l (fun i hi => by have := h (i + 1) (by simpa using hi); simpa using this)
    refine ⟨b :: g, ?_⟩
    simp only [List.getElem?_cons_zero, Option.some.injEq] at hb
    rw [hb, hg]; rfl
theorem bv_of_wf {n : Int} (h : (Lit.int .u8 n).wf = true) : ∃ b : UInt8, (.int .u8 n : Value) = bv b := by
  have hb := bounds_u8 h
  refine ⟨UInt8.ofNat n.toNat, ?_⟩
  unfold bv
  have : (UInt8.ofNat n.toNat).toNat = n.toNat := by simp; omega
  rw [this]
  congr 1; omega
section
variable {H : Type} {enc : TypeId × Value → H} {P : Program} {w : World} {base : Nat} {spare : Nat → Bool} {held : Bool}
theorem open_guid {t E n : Nat} {r : Reach} {b0 : Nat} {v : Value} {d : DataW H} {p : List MemPlace} (ht : P.underlying t = some (.array n E)) (hE : P.underlying E = some (.int .u8)) (hct : P.cellsOf t = n) (hcE : P.cellsOf E = 1)
    (hv : Value.okWide P w r b0 t v) (h : DataW.Trod enc P w base spare held t v d p) : ∃ g : List UInt8, g.length = n ∧ v = gv g := by
  unfold Value.okWide at hv
  rw [ht] at hv
  obtain ⟨cs, rfl, hsz, _⟩ := hv
  obtain ⟨fuel, hf⟩ := h
  obtain ⟨xs, m, rfl, hx, hl, hxl, hget⟩ := DataW.trod_array ht hf
  have hcl : cs.toList.length = n := by simp [hsz, hct]
  obtain ⟨g, hg⟩ := bvs_of_all cs.toList (fun i hi => by
    have hi' : i < n := by omega
    have h1 := hget i hi'
    rw [hcE, Nat.mul_one] at h1
    have hxi : xs[i]? = some xs[i] := List.getElem?_eq_getElem (by omega)
    rw [hxi] at h1
    have e : (cs.toList.drop i).take 1 = [cs.toList[i]] := by
      rw [List.drop_eq_getElem_cons hi]; rfl
    simp only [Value.cells] at h1
    rw [e] at h1
    obtain ⟨a, e0, _, wa⟩ := DataW.trod_int hE h1
    simp only [List.cons.injEq, and_true] at e0
    obtain ⟨b, hb⟩ := bv_of_wf wa
    exact ⟨b, by rw [List.getElem?_eq_getElem hi, e0, hb]⟩)
  refine ⟨g, by rw [← hcl, hg]; simp, ?_⟩
  unfold gv
  congr 1
  rw [← hg]
theorem open_bytes {t E : Nat} {r : Reach} {b0 : Nat} {v : Value} {d : DataW H} {p : List MemPlace} (ht : P.underlying t = some (.slice E)) (hE : P.underlying E = some (.int .u8)) (hcE : P.cellsOf E = 1)
    (hv : Value.okWide P w r b0 t v) (h : DataW.Trod enc P w base (fun _ => true) held t v d p) : ∃ bs, BS w v bs := by
  obtain ⟨a, n, c, rfl⟩ := okWide_slice ht hv
  obtain ⟨fuel, hf⟩ := h
  rcases open_ints ht hE hcE hf with ⟨hcs, _⟩ | ⟨x, l, c', zs, hcs, _, hl, hm, hz, _, hcell, hwz⟩
  · simp [Value.cells] at hcs
    obtain ⟨rfl, rfl, rfl⟩ := hcs
    exact ⟨[], BS.nil w⟩
  · simp [Value.cells] at hcs
    obtain ⟨rfl, rfl, rfl⟩ := hcs
    have hz' : zs.length = c := by simpa using hz
    obtain ⟨bs, hbs⟩ := bvs_of_all (zs.map (Value.int .u8)) (fun i hi => by
      have hi' : i < zs.length := by simpa using hi
      obtain ⟨b, hb⟩ := bv_of_wf (hwz zs[i] (List.getElem_mem _))
      exact ⟨b, by simp [hi', hb]⟩)
    have hbl : bs.length = c := by
      have := congrArg List.length hbs
      simpa [hz'] using this.symm
    refine ⟨bs.take n, _, _, _, rfl, (by simp [hbl]; omega), hl, hm, (fun e => by cases e), fun ad had i u hu => ?_⟩
    obtain rfl := Option.some.inj had
    rw [← bvs_take, List.getElem?_take] at hu
    split at hu
    · rw [← hbs] at hu
      simp only [List.getElem?_map, Option.map_eq_some_iff] at hu
      obtain ⟨z, hz1, rfl⟩ := hu
      have hi := (List.getElem?_eq_some_iff.1 hz1).1
      rw [hcell i hi]
      simp [List.getD, hz1]
    · cases hu
end
end Go.Proofs.Ytjfenbkhgamidaa
