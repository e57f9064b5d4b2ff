/- Walks of lintellaw09: NvramStill. Conditions: none. -/
import Derived.Test.YtpbpiehcchannaaGreatDoorJNka
namespace Go.Proofs.YtpbpiehcchannaaGreatDoor
open Go.RowKit
set_option linter.unusedVariables false
set_option linter.unusedSimpArgs false
set_option maxRecDepth 100000
set_option maxHeartbeats 1500000
theorem image_frz (s : FlS) (hl : s.l.length ≤ 140737488355328) (v0 v1 : Nat) : Spec Tryz.prog 16 [.ref 0 v0 6 0 0] [⟨v0, .obj [.own 1 v1 1 0 s.l.length, .val (.int .i64 (s.k : Int)), .val (.int .i64 s.ar), .val (.int .i64 s.pt), .val (.bool s.dd), .val (.int .i64 s.wr)]⟩, ⟨v1, .bytes s.l⟩] (pms (.bs 0 s.l) [⟨v0, .obj [.own 1 v1 1 0 s.l.length, .val (.int .i64 (s.k : Int)), .val (.int .i64 s.ar), .val (.int .i64 s.pt), .val (.bool s.dd), .val (.int .i64 s.wr)]⟩, ⟨v1, .bytes s.l⟩] []) :=
  spec_frz (spec_image s hl v0 v1) (by simp [geM]) (AF.own rfl rfl) ⟨rfl, BF.same, rfl, BF.same, trivial⟩
theorem eqR_self (R : List RK) : eqR R R = true := decide_eq_true ⟨rfl, rfl⟩
theorem law_still (a b : Int) (ha : I64 a) (hb : I64 b) (l : List OpB) (ho : ∀ o ∈ l, OpBOk o) (hll : l.length * 72 ≤ 140737488351232) (key val : List UInt8) (hkl : key.length ≤ 140737488355328) (hvl : val.length ≤ 140737488355328) : Spec Tryz.prog 3 [.val (.int .i64 a), .val (.int .i64 b), .sl 0 5 (opB 0) opB0 l, .bs 0 key, .bs 0 val] [] (pms (.val (.bool true)) [] []) := by
  refine spec_entry tbOk Tryz.func3 rfl Tryz.ntmps3 Tryz.results3 ?_
  refine gg (k := ?_)
  refine ⟨OpB, opB 0, opB0, l, ?_⟩
  conv => whnf
  refine And.intro ⟨rfl, fun x hx => ⟨rfl, rfl, rfl, trivial, trivial, trivial⟩, rfl, rfl, rfl, rfl, .inr rfl, rfl, by show _ * 72 ≤ _; (try simp only [List.length_append]); omega, by decide⟩ ?_
  refine gg (k := ?_)
  obtain ⟨o, hoo⟩ : ∃ o : OpB, o = ⟨0, 0, 0, key, val⟩ := ⟨_, rfl⟩
  refine ⟨OpB, opB 0, opB0, l ++ [o], ?_⟩
  conv => whnf
  refine And.intro ⟨rfl, ⟨rfl, rfl, Nat.le_refl _, fun q hq => (by (have hq0 : q = 0 := by simpa using hq); subst hq0; exact ⟨rfl, rfl, rfl, trivial, trivial, trivial⟩)⟩, rfl, rfl, rfl, rfl, .inr rfl, (by rw [List.map_append, hoo]; rfl), by show _ * 72 ≤ _; simp only [List.length_append, List.length_singleton]; omega, by decide⟩ ?_
  refine gg (k := ?_)
  refine cmks (vast9_own a b (l ++ [o]) (l ++ [o]).length rfl 3) Tryz.call12 (hrows := ⟨⟨fun _ => ⟨trivial, trivial, trivial, trivial, trivial, trivial⟩, rfl⟩, trivial⟩) (hr2 := ⟨fun _ => ⟨trivial, trivial, trivial, trivial, trivial, trivial⟩, trivial⟩) 1 [22] [0] [] ?_
  by_cases hv : vast9B a b (l ++ [o]) = true
  · rw [hv]
    refine gg (k := ?_)
    (
                                        refine cmks (works9_vc) Tryz.call13 0 [] [] [] ?_
                                        refine gg (k := ?_)
                                        exact ⟨_, rfl, rfl, trivial⟩)
  have hv0 : vast9B a b (l ++ [o]) = false := by simpa using hv
  rw [hv0]
  have hn : l.length ≤ 79 ∧ a ≤ 8 ∧ b ≤ 1024 := by
    unfold vast9B at hv0
    rw [Bool.or_eq_false_iff, decide_eq_false_iff_not, List.length_append, List.length_singleton] at hv0
    omega
  clear hv hv0
  refine gg (k := ?_)
  by_cases hvd : 1 ≤ a ∧ a ≤ 64 ∧ 16 ≤ b ∧ b ≤ 65536
  case neg =>
    refine cmks (filled_bad a b ha hb hvd l) Tryz.call14 (hon := ⟨trivial, trivial, fun _ => ⟨trivial, trivial, trivial, trivial, trivial, trivial⟩, trivial⟩) 0 [] [] [] ?_
    refine gg (k := ?_)
    (
                                        refine cmks (works9_vc) Tryz.call13 0 [] [] [] ?_
                                        refine gg (k := ?_)
                                        exact ⟨_, rfl, rfl, trivial⟩)
  obtain ⟨x, rfl⟩ : ∃ x : Nat, a = (x : Int) := ⟨a.toNat, by omega⟩
  obtain ⟨y, rfl⟩ : ∃ y : Nat, b = (y : Int) := ⟨b.toNat, by omega⟩
  by_cases hbad : x % 2 = 1 ∨ (x / 2) * y < 64
  · refine cmks (filled_arg x y (by omega) (by omega) hbad l) Tryz.call14 (hon := ⟨trivial, trivial, fun _ => ⟨trivial, trivial, trivial, trivial, trivial, trivial⟩, trivial⟩) 0 [] [] [] ?_
    refine gg (k := ?_)
    (
                                        refine cmks (works9_vc) Tryz.call13 0 [] [] [] ?_
                                        refine gg (k := ?_)
                                        exact ⟨_, rfl, rfl, trivial⟩)
  obtain ⟨c, rfl⟩ : ∃ c, x = 2 * c := ⟨x / 2, by omega⟩
  have hbig : 64 ≤ c * y := by
    have : 2 * c / 2 = c := by omega
    rw [this] at hbad; omega
  have hc1 : 1 ≤ c := by
    rcases Nat.eq_zero_or_pos c with q | q
    · rw [q] at hbig; omega
    · exact q
  obtain ⟨s, R, hSM, hF⟩ := filled_vc c y ⟨hc1, by omega⟩ (by omega) hbig l ho (by omega)
  have la : Lies (2 * c * y) y 0 c := lies0 hc1 (by omega) hbig
  have lb : Lies (2 * c * y) y c c := liesC hc1 (by omega) hbig
  obtain ⟨G, M, hNM, hRM, hG⟩ := hSM.ex
  have hgo := hSM.go
  have hlen := hSM.len
  have hglen := hgo.len
  have hgl := hgo.l
  have hop := spec_mono (open_vc s c hgo (by omega) la lb rfl hNM.live 3 4) fun X H q => q.1 (by rw [hNM.opn])
  rw [hNM.opn] at hop
  have hld := holds_vc s c hNM.lk hRM hgo la lb hSM.ok (by omega) R hSM.ok (by omega) ((c * y - 16 : Nat) : Int)
  rw [eqR_self] at hld
  have hse := hSM.set (by omega) (by omega) la lb key val
  have hde := hSM.del key
  refine cmks (hF) Tryz.call14 (hon := ⟨trivial, trivial, fun _ => ⟨trivial, trivial, trivial, trivial, trivial, trivial⟩, trivial⟩) 0 [0, 0, 0, 0, 0, 0, 0, 0, 0, 0, 0, 0, 0, 0, 0, 0, 0, 0, 0, 0, 37, 38, 0, 0, 0, 0, 0, 39, 40, 41, 0, 0, 0, 0, 43] [0, 0, 0, 0, 0, 0, 0, 0, 0, 0, 0, 0, 0, 0, 0, 0, 0, 0, 0, 0, 1, 1, 0, 0, 0, 0, 0, 1, 1, 1, 0, 0, 0, 0, 1] [34, 27, 28, 29, 20, 21] ?_
  refine gg (k := ?_)
  refine cdet (spec_writes s 3 4) Tryz.call15 [37, 38] ?_
  refine gg (k := ?_)
  refine cmks (image_frz s (by omega) 3 4) Tryz.call16 2 [37, 38] [0, 0] [] ?_
  refine gg (k := ?_)
  refine cmks (hop) Tryz.call17 2 [37, 38, 0, 0, 0, 0, 0, 0, 0, 0, 0, 0, 0, 0, 0, 0, 0, 0, 0, 0, 0, 0, 0, 0, 0, 0, 0, 0, 0, 0, 0, 0, 0, 0, 0, 0, 0, 0, 0, 48, 0, 0, 0, 0, 0, 0, 0, 0, 0, 0, 0, 0, 0, 0, 0, 0, 0, 0, 0, 0, 0, 0, 0, 0, 0, 0, 0, 0, 0, 0, 0, 0, 0, 0, 0, 0, 0, 0, 0, 0, 49, 50] [0, 0, 0, 0, 0, 0, 0, 0, 0, 0, 0, 0, 0, 0, 0, 0, 0, 0, 0, 0, 0, 0, 0, 0, 0, 0, 0, 0, 0, 0, 0, 0, 0, 0, 0, 0, 0, 0, 0, 1, 0, 0, 0, 0, 0, 0, 0, 0, 0, 0, 0, 0, 0, 0, 0, 0, 0, 0, 0, 0, 0, 0, 0, 0, 0, 0, 0, 0, 0, 0, 0, 0, 0, 0, 0, 0, 0, 0, 0, 0, 1, 1] [39, 80, 81] ?_
  refine gg (k := ?_)
  (refine sts (k := ?_))
  refine gcl (k := ?_)
  refine cmks (hld 2 3 3 3 4 2) Tryz.call18 6 [48, 49, 50, 37, 38, 43] [0, 0, 0, 0, 0, 0] [] ?_
  refine gg (k := ?_)
  refine gcl (k := ?_)
  refine cmks (hld 3 4 4 3 4 2) Tryz.call18 6 [39, 40, 41, 37, 38, 43] [0, 0, 0, 0, 0, 0] [] ?_
  refine gg (k := ?_)
  refine gcl (k := ?_)
  refine cdet (spec_writes s 3 4) Tryz.call15 [37, 38] ?_
  refine gg (k := ?_)
  refine gcl (k := ?_)
  refine cmks (image_frz s (by omega) 3 4) Tryz.call16 2 [37, 38] [0, 0] [] ?_
  refine gg (k := ?_)
  conv => whnf
  refine gcl (hA := fun hG => by first | exact ⟨trivial, hG, trivial, trivial⟩ | exact ⟨trivial, hG, hG, trivial⟩ | exact ⟨trivial, trivial, hG, trivial⟩ | exact ⟨trivial, trivial, trivial, trivial⟩) (k := ?_)
  refine cmks (same_vc 0 0 s.l s.l (by omega)) Tryz.call19 0 [] [] [] ?_
  rw [decide_eq_true (rfl : s.l = s.l)]
  refine gg (k := ?_)
  refine cmks (mcopy_vc R (by omega) ((c * y - 16 : Nat) : Int) 2) Tryz.call20 1 [43, 0, 0, 0, 0, 0, 0, 0, 0, 0, 0, 0, 0, 0, 0, 0, 0, 0, 0, 0, 0, 80] [0, 0, 0, 0, 0, 0, 0, 0, 0, 0, 0, 0, 0, 0, 0, 0, 0, 0, 0, 0, 0, 1] [21] ?_
  refine gg (k := ?_)
  refine cmks (mset_vc R hSM.sort hSM.ok (by omega) key val hkl hvl ((c * y - 16 : Nat) : Int) 2) Tryz.call21 1 [80] [0] [] ?_
  by_cases hw : setE R ((c * y - 16 : Nat) : Int) key val = 0
  case neg =>
    refine gg (k := ?_)
    rw [decide_eq_false hw]
    refine gg (k := ?_)
    refine cmks (twin9_vc 0 key hkl) Tryz.call23 0 [] [] [] ?_
    refine gg (k := ?_)
    refine cmks (twin9_vc 0 val hvl) Tryz.call23 0 [] [] [] ?_
    refine gg (k := ?_)
    refine cmks (set_vc s c hgo (by omega) la lb hNM.live 0 0 key val hkl hvl 3 4 4 3 4) Tryz.call22 5 [39, 40, 41, 37, 38] [0, 0, 0, 0, 0] [] ?_
    rw [hse.1, hse.2.2 hw]
    refine gg (k := ?_)
    refine gcl (k := ?_)
    refine cdet (spec_writes s 3 4) Tryz.call15 [37, 38] ?_
    refine gg (k := ?_)
    refine gcl (k := ?_)
    refine cmks (works9_vc) Tryz.call13 0 [] [] [] ?_
    refine gg (k := ?_)
    refine ⟨_, ?_, rfl, trivial⟩
    simp [retV]
  refine gg (k := ?_)
  rw [decide_eq_true hw]
  refine gg (k := ?_)
  refine cmks (mcopy_vc R (by omega) ((c * y - 16 : Nat) : Int) 2) Tryz.call20 1 [43, 0, 0, 0, 0, 0, 0, 0, 0, 0, 0, 0, 0, 0, 0, 0, 0, 0, 0, 0, 0, 103] [0, 0, 0, 0, 0, 0, 0, 0, 0, 0, 0, 0, 0, 0, 0, 0, 0, 0, 0, 0, 0, 1] [21] ?_
  refine gg (k := ?_)
  refine cmks (mdel_vc R hSM.sort (by omega) 0 key ((c * y - 16 : Nat) : Int) 2) Tryz.call24 1 [103] [0] [] ?_
  by_cases hw2 : delE R key = 0
  case neg =>
    refine gg (k := ?_)
    rw [decide_eq_false hw2]
    refine gg (k := ?_)
    refine cmks (twin9_vc 0 key hkl) Tryz.call23 0 [] [] [] ?_
    refine gg (k := ?_)
    refine cmks (dels_vc s c hgo (by omega) la lb 0 key 3 4 4 3 4) Tryz.call25 5 [39, 40, 41, 37, 38] [0, 0, 0, 0, 0] [] ?_
    rw [hde.1, (hde.2.2 hw2).1]
    refine gg (k := ?_)
    refine gcl (k := ?_)
    refine cdet (spec_writes s 3 4) Tryz.call15 [37, 38] ?_
    refine gg (k := ?_)
    refine gcl (k := ?_)
    refine cmks (works9_vc) Tryz.call13 0 [] [] [] ?_
    refine gg (k := ?_)
    refine ⟨_, ?_, rfl, trivial⟩
    simp [retV]
  refine gg (k := ?_)
  rw [decide_eq_true hw2]
  refine gg (k := ?_)
  (
                                        refine cmks (works9_vc) Tryz.call13 0 [] [] [] ?_
                                        refine gg (k := ?_)
                                        exact ⟨_, rfl, rfl, trivial⟩)
end Go.Proofs.YtpbpiehcchannaaGreatDoor
