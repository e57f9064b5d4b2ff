/- Walks of lintelref09: the map, as sorted records. Conditions: none. -/
import Derived.Test.YtpbpiehcchannaaGreatDoorJHq
namespace Go.Proofs.YtpbpiehcchannaaGreatDoor
open Go.RowKit
set_option linter.unusedVariables false
set_option linter.unusedSimpArgs false
set_option maxRecDepth 100000
set_option maxHeartbeats 1500000
theorem ok_bnd {R : List RK} (hok : ∀ r ∈ R, OkK r) : (∀ k ∈ ksR R, k.length ≤ 4294967296) ∧ (∀ v ∈ vsR R, v.length ≤ 4294967296) := by
 constructor
 ·intro k hk
  obtain ⟨r, hr, rfl⟩ := List.mem_map.1 hk
  have := hok r hr
  have := this.1.2
  omega
 ·intro k hk
  obtain ⟨r, hr, rfl⟩ := List.mem_map.1 hk
  have := hok r hr
  have := this.2
  omega
theorem mset_vc (R : List RK) (hs : SortK R) (hok : ∀ r ∈ R, OkK r) (hl : R.length ≤ 4096) (key val : List UInt8) (hkl : key.length ≤ 140737488355328) (hvl : val.length ≤ 140737488355328) (room : Int) (vm : Nat) : Spec Tryz.prog 21 [.ref 0 vm 3 0 0, .bs 0 key, .bs 0 val] [⟨vm, .obj [.sl 0 1 (fun k : List UInt8 => [AV.bs 0 k]) [] (ksR R), .sl 0 1 (fun k : List UInt8 => [AV.bs 0 k]) [] (vsR R), .val (.int .i64 room)]⟩]
   (pms (.val (.int .i64 (setE R room key val))) [⟨vm, .obj [.sl 0 1 (fun k : List UInt8 => [AV.bs 0 k]) [] (ksR (setW R room key val)), .sl 0 1 (fun k : List UInt8 => [AV.bs 0 k]) [] (vsR (setW R room key val)), .val (.int .i64 room)]⟩] []) := by
 have h := set9_all (ksR R) (vsR R) key val room (by rw [ksR_len]; exact hl) (by rw [ksR_len, vsR_len]) (ok_bnd hok) hkl hvl vm
 rw [setV_R hs] at h
 exact h
theorem mdel_vc (R : List RK) (hs : SortK R) (hl : R.length ≤ 4096) (z : Nat) (key : List UInt8) (room : Int) (vm : Nat) : Spec Tryz.prog 24 [.ref 0 vm 3 0 0, .bs z key] [⟨vm, .obj [.sl 0 1 (fun k : List UInt8 => [AV.bs 0 k]) [] (ksR R), .sl 0 1 (fun k : List UInt8 => [AV.bs 0 k]) [] (vsR R), .val (.int .i64 room)]⟩]
   (pms (.val (.int .i64 (delE R key))) [⟨vm, .obj [.sl 0 1 (fun k : List UInt8 => [AV.bs 0 k]) [] (ksR (delR R key)), .sl 0 1 (fun k : List UInt8 => [AV.bs 0 k]) [] (vsR (delR R key)), .val (.int .i64 room)]⟩] []) := by
 have h := del9_vc z (ksR R) (vsR R) key room (by rw [ksR_len]; exact hl) (by rw [ksR_len, vsR_len]) vm
 rw [delM_R hs] at h
 exact h
theorem mused_vc (R : List RK) (hok : ∀ r ∈ R, OkK r) (hl : R.length ≤ 4096) (room : Int) (vm : Nat) : Spec Tryz.prog 75 [.ref 0 vm 3 0 0] [⟨vm, .obj [.sl 0 1 (fun k : List UInt8 => [AV.bs 0 k]) [] (ksR R), .sl 0 1 (fun k : List UInt8 => [AV.bs 0 k]) [] (vsR R), .val (.int .i64 room)]⟩] (pms (.val (.int .i64 (usedK R : Int))) [⟨vm, .obj [.sl 0 1 (fun k : List UInt8 => [AV.bs 0 k]) [] (ksR R), .sl 0 1 (fun k : List UInt8 => [AV.bs 0 k]) [] (vsR R), .val (.int .i64 room)]⟩] []) := by
 have h := used9_vc (ksR R) (vsR R) room (by rw [ksR_len]; exact hl) (by rw [ksR_len, vsR_len]) (ok_bnd hok) vm
 rw [usedM_all] at h
 exact h
theorem mcopy_vc (R : List RK) (hl : R.length ≤ 4096) (room : Int) (vm : Nat) : Spec Tryz.prog 20 [.ref 0 vm 3 0 0] [⟨vm, .obj [.sl 0 1 (fun k : List UInt8 => [AV.bs 0 k]) [] (ksR R), .sl 0 1 (fun k : List UInt8 => [AV.bs 0 k]) [] (vsR R), .val (.int .i64 room)]⟩] (pms (.ref 21 1 3 0 0) [⟨vm, .obj [.sl 0 1 (fun k : List UInt8 => [AV.bs 0 k]) [] (ksR R), .sl 0 1 (fun k : List UInt8 => [AV.bs 0 k]) [] (vsR R), .val (.int .i64 room)]⟩] [(21, ⟨1, .obj [.sl 0 1 (fun k : List UInt8 => [AV.bs 0 k]) [] (ksR R), .sl 0 1 (fun k : List UInt8 => [AV.bs 0 k]) [] (vsR R), .val (.int .i64 room)]⟩)]) :=
 copy9_vc (ksR R) (vsR R) room (by rw [ksR_len]; exact hl) (by rw [vsR_len]; exact hl) vm
end Go.Proofs.YtpbpiehcchannaaGreatDoor
