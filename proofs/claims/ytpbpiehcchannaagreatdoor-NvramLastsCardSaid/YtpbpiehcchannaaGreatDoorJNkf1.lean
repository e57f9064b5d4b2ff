/- Walks of lintellaw09: the loop of NvramLasts, part 1. Conditions: none. -/
import Derived.Test.YtpbpiehcchannaaGreatDoorJNkf0
namespace Go.Proofs.YtpbpiehcchannaaGreatDoor
open Go.RowKit
set_option linter.unusedVariables false
set_option linter.unusedSimpArgs false
set_option maxRecDepth 100000
set_option maxHeartbeats 9000000
theorem lasts_b1 (c y : Nat) (l : List OpB) (fs : List FallB) (hfs : ∀ f ∈ fs, FallOk f) (hn : l.length ≤ 80) (hfl : fs.length ≤ 200) (hc1 : 1 ≤ c ∧ 2 * c ≤ 8) (hy : 16 ≤ y ∧ y ≤ 1024) (hbig : 64 ≤ c * y) (la : Lies (2 * c * y) y 0 c) (lb : Lies (2 * c * y) y c c) (s1 : FlS) (Q : Ex → St → Prop) (i kk : Nat) (s : FlS) (R : List RK) (vs va vb vm : Nat) (v : Nat → Nat) (hx : lastsInv c y l ⟨i, kk, s, R, vs, va, vb, vm⟩) (hlt : i < l.length) (hoi : OpBOk (l.getD i opB0)) (k2 : (l.getD i opB0).K = 2) (hkf : kk < fs.length) :
    codeW tb Tryz.prog 0 ((firstLoop (Tryz.f5.body.getD .skip)).getD .skip) (backA (Inv := (fun z : LL => lastsInv c y l z)) (fun z => l.length - z.i) 0 lastsS lastsTS (lastsHS c y) (lastsT c y l fs) (lastsH c y s1) ⟨(⟨i, kk, s, R, vs, va, vb, vm⟩, v), hx⟩ Q) (lpS 0 lastsS lastsTS (lastsHS c y) (lastsT c y l fs) (lastsH c y s1) ⟨i, kk, s, R, vs, va, vb, vm⟩ v) := by
 obtain ⟨i1, i2, hSN, hcm⟩ := id hx
 simp only at i1 i2 hSN hcm
 have hlti : (i : Int) < (l.length : Int) := by omega
 have hdec : l.length - (i + 1) < l.length - i := by omega
 unfold lastsT lastsH lastsS lastsTS lastsHS
 refine glp (k := ?_)
 refine gg (k := ?_)
 rw [decide_eq_true hlti]
 refine gg (k := ?_)
 have hti : l.getD i opB0 = l.getD (i : Int).toNat opB0 := by rw [Int.toNat_natCast]
 rw [hti] at hoi k2
 clear hti
 refine gg (k := ?_)
 generalize l.getD (i : Int).toNat opB0 = o at hoi k2 ⊢
 have hkey := hoi.key
 have hval := hoi.val
 have hlen := hSN.len
 have hok := hSN.ok
 have hso := hSN.sort
 rw [decide_eq_true k2]
 refine gg (k := ?_)
 have hf : FallOk (fs.getD (kk : Int).toNat fall0) := by rw [Int.toNat_natCast, List.getD_eq_getElem?_getD, List.getElem?_eq_getElem hkf]; exact hfs _ (List.getElem_mem hkf)
 have hfN := hf.N
 have hfP := hf.P
 (refine sts (k := ?_))
 refine draw_of (p := 0) tbOk hm [0, 0, 2, 7, 15, 31, 31, 31, 223, 479, 991, 2015, 31, 31, 12319, 28703, 61471, 127007, 262143, 524287, 1048575] [⟨0, false, false, []⟩, ⟨1, false, false, []⟩, ⟨2, true, false, [75, 78, 79, 80, 81, 82, 83, 84, 85, 86, 87, 88, 89, 90, 91, 92, 93, 94, 95]⟩, ⟨3, false, false, []⟩, ⟨4, false, false, []⟩, ⟨5, false, false, []⟩, ⟨6, false, false, []⟩, ⟨7, false, false, []⟩, ⟨8, true, false, [80, 84, 85, 86, 87, 88, 89, 90, 91, 92, 93, 94, 95]⟩, ⟨9, true, false, [80, 85, 86, 87, 88, 89, 90, 91, 92, 93, 94, 95]⟩, ⟨10, true, false, [80, 86, 87, 88, 89, 90, 91, 92, 93, 94, 95]⟩, ⟨11, true, false, [80, 87, 88, 89, 90, 91, 92, 93, 94, 95]⟩, ⟨12, false, false, []⟩, ⟨13, false, false, []⟩, ⟨14, true, false, [80, 81, 82, 83, 84, 85, 86, 90, 91, 92, 93, 94, 95]⟩, ⟨15, true, false, [80, 81, 82, 83, 84, 85, 86, 91, 92, 93, 94, 95]⟩, ⟨16, true, false, [80, 81, 82, 83, 84, 85, 86, 92, 93, 94, 95]⟩, ⟨17, true, false, [80, 81, 82, 83, 84, 85, 86, 93, 94, 95]⟩, ⟨18, true, true, [94, 95]⟩, ⟨19, false, false, []⟩, ⟨20, false, false, []⟩] (by kernel_rfl) ?_
 refine gg (k := ?_)
 conv => whnf
 refine gcl (hA := fun hG => ⟨trivial, hG, hG, hG, trivial⟩) (k := ?_)
 refine cdet (armS_vc s hSN.dd (fs.getD (kk : Int).toNat fall0).N (fs.getD (kk : Int).toNat fall0).P hfN hfP 2 3) Tryz.call30 [36, 37] ?_
 have hSN2 := hSN.armS hfN hfP
 generalize s.armS (fs.getD (kk : Int).toNat fall0).N (fs.getD (kk : Int).toNat fall0).P = s2 at hSN2 ⊢
 (
 refine gg (k := ?_)
 refine cmks (mcopy_vc R (by omega) ((c * y - 16 : Nat) : Int) vm) Tryz.call20 (had := ⟨⟨_, rfl, Nat.lt_succ_self _⟩, trivial⟩) (hz := fun r hr => by match r, hr with | 0, _ => rfl) 1 [56, 0, 0, 0, 0, 0, 0, 0, 0, 0, 0, 0, 0, 0, 0, 0, 0, 0, 0, 0, 0, 99] [0, 0, 0, 0, 0, 0, 0, 0, 0, 0, 0, 0, 0, 0, 0, 0, 0, 0, 0, 0, 0, (v 99 + 1)] [21] ?_
 refine gg (k := ?_)
 rw [decide_eq_true k2]
 refine gg (k := ?_)
 refine cmks (mset_vc R hso hok (by omega) o.key o.val hkey hval ((c * y - 16 : Nat) : Int) (1 + (v 99 + 1))) Tryz.call21 1 [99] [0] [] ?_
 refine gg (k := ?_)
 refine cmks (does9_set s2 c hSN2.go (by omega) la lb hSN2.dd o hoi k2 vs va vb 2 3) Tryz.call28 5 [44, 45, 46, 36, 37] [0, 0, 0, 0, 0] [] ?_
 have hout := hSN2.set (by omega) (by omega) la lb o.key o.val
 have hfact := setW_facts hok hSN.lv ((c * y - 16 : Nat) : Int) o.key o.val
 generalize (s2.set c o.key o.val).1 = E at hout ⊢
 generalize (s2.set c o.key o.val).2 = S3 at hout ⊢
 generalize setE R ((c * y - 16 : Nat) : Int) o.key o.val = WT at hout ⊢
 generalize setW R ((c * y - 16 : Nat) : Int) o.key o.val = R2 at hout hfact ⊢
 refine gg (k := ?_))
 rcases hout with ⟨hE, hn3⟩ | ⟨hE, hW0, hdd, hsw⟩
 ·(
 subst hE
 refine cdet (spec_dead_b S3 false hn3.dd 2 3) Tryz.call31 [36, 37] ?_
 refine gg (k := ?_)
 conv => whnf
 refine gcl (hA := fun hG => by first | exact ⟨trivial, hG, trivial, trivial, trivial⟩ | exact ⟨trivial, trivial, trivial, trivial, trivial⟩) (k := ?_)
 refine cdet (armS_vc S3 hn3.dd 0 0 (by decide) (by decide) 2 3) Tryz.call30 [36, 37] ?_
 have hn4 := hn3.armS (x := 0) (y := 0) (by decide) (by decide)
 obtain ⟨M4, lk4, rm4⟩ := hn4.look
 refine gg (k := ?_)
 rw [decide_eq_true (rfl : E = E)]
 refine gg (k := ?_)
 refine cmks (holds_vc (S3.armS 0 0) c lk4 rm4 hn4.go la lb hn4.ok (by have := hn4.len; omega) R2 hn4.ok (by have := hn4.len; omega) ((c * y - 16 : Nat) : Int) vs va vb 2 3 (1 + (v 99 + 1))) Tryz.call18 6 [44, 45, 46, 36, 37, 99] [0, 0, 0, 0, 0, 0] [] ?_
 rw [eqR_self]
 refine gg (k := ?_)
 refine back_le (leS_move 99 56 (vm + 1) rfl rfl rfl (Nat.lt_succ_self vm) rfl (leTm_set (k := 12) rfl)) ?_
 dsimp only [setL]
 refine back_at ⟨i + 1, kk + 1, S3.armS 0 0, R2, vs, va, vb, vm + 1⟩ ⟨hlt, by show kk + 1 ≤ 5 * (i + 1); omega, hn4.mono (by show 6 * i + 1 ≤ 6 * (i + 1); omega), rfl, rfl⟩ hdec ?_ ?_
 ·exact no_implicit_lambda% ten
 ·exact no_implicit_lambda% hen)
 ·(
 refine cdet (spec_dead_b S3 true hdd 2 3) Tryz.call31 [36, 37] ?_
 refine gg (k := ?_)
 obtain ⟨Rc, hRc, hswc⟩ : ∃ Rc, (Rc = R ∨ Rc = R2) ∧ SW S3 c y (6 * i + 1) Rc := by
  rcases hsw with h | h
  ·exact ⟨R, .inl rfl, h⟩
  ·exact ⟨R2, .inr rfl, h⟩
 (refine sts (k := ?_))
 conv => whnf
 refine loop_at (fun z : TT => z.t ≤ 3 ∧ z.kk ≤ 5 * i + 1 + z.t ∧ z.s.dd = true ∧ SW z.s c y (6 * i + 1 + z.t) Rc) (fun z => 4 - z.t) 0 [8, 10, 11, 13, 21, 147, 148, 149, 150, 151, 152, 153, 154, 155, 156, 157, 158, 159, 160, 161, 162, 163, 164, 165, 166, 167, 168, 169, 170, 171, 172, 173, 174, 175, 176, 177, 178, 179, 180, 181, 182, 183, 184, 185, 186, 187, 188, 189, 190, 191, 192, 193, 194] (fun z => [(8, .val (.bool false)), (13, .val (.int .i64 (z.kk : Int))), (21, .val (.int .i64 (z.t : Int)))]) (fun z => [(36, ⟨2, .obj [.own 37 3 1 0 z.s.l.length, .val (.int .i64 (z.s.k : Int)), .val (.int .i64 z.s.ar), .val (.int .i64 z.s.pt), .val (.bool z.s.dd), .val (.int .i64 z.s.wr)]⟩), (37, ⟨3, .bytes z.s.l⟩)]) ⟨0, kk + 1, S3⟩ ⟨Nat.zero_le _, by show kk + 1 ≤ 5 * i + 1 + 0; omega, hdd, hswc⟩ ?_ ?_ ?_
 ·exact no_implicit_lambda% ten
 ·exact no_implicit_lambda% hen
 ·rintro ⟨t, k2', s3⟩ w ⟨t1, t2, t3, t4⟩
  simp only at t1 t2 t3 t4
  refine glp (k := ?_)
  refine gg (k := ?_)
  refine cdet (onS_vc s3 t3 2 3) Tryz.call32 [36, 37] ?_
  refine gg (k := ?_)
  have hwo := t4.onS
  by_cases harm : t < 3 ∧ k2' < fs.length
  ·obtain ⟨hm1, hm2⟩ := harm
   have hf2 : FallOk (fs.getD (k2' : Int).toNat fall0) := by rw [Int.toNat_natCast, List.getD_eq_getElem?_getD, List.getElem?_eq_getElem hm2]; exact hfs _ (List.getElem_mem hm2)
   have hfN2 := hf2.N
   have hfP2 := hf2.P
   (refine sts (k := ?_))
   refine draw_of (p := 0) tbOk hm [0, 1, 3, 7, 7, 23, 63, 127, 255, 511, 511, 511, 3583, 7679, 15871, 32255, 511, 511, 197119, 459263, 983551, 2032127, 4194303, 8388607, 16777215] [⟨0, false, false, []⟩, ⟨1, false, false, []⟩, ⟨2, false, false, []⟩, ⟨3, false, false, []⟩, ⟨4, false, false, []⟩, ⟨5, true, false, [157, 160, 161, 162, 163, 164, 165, 166, 167, 168, 169, 170, 171, 172, 173, 174, 175, 176, 177, 178]⟩, ⟨6, false, false, []⟩, ⟨7, false, false, []⟩, ⟨8, false, false, []⟩, ⟨9, false, false, []⟩, ⟨10, false, false, []⟩, ⟨11, false, false, []⟩, ⟨12, true, false, [163, 167, 168, 169, 170, 171, 172, 173, 174, 175, 176, 177, 178]⟩, ⟨13, true, false, [163, 168, 169, 170, 171, 172, 173, 174, 175, 176, 177, 178]⟩, ⟨14, true, false, [163, 169, 170, 171, 172, 173, 174, 175, 176, 177, 178]⟩, ⟨15, true, false, [163, 170, 171, 172, 173, 174, 175, 176, 177, 178]⟩, ⟨16, false, false, []⟩, ⟨17, false, false, []⟩, ⟨18, true, false, [163, 164, 165, 166, 167, 168, 169, 173, 174, 175, 176, 177, 178]⟩, ⟨19, true, false, [163, 164, 165, 166, 167, 168, 169, 174, 175, 176, 177, 178]⟩, ⟨20, true, false, [163, 164, 165, 166, 167, 168, 169, 175, 176, 177, 178]⟩, ⟨21, true, false, [163, 164, 165, 166, 167, 168, 169, 176, 177, 178]⟩, ⟨22, true, true, [177, 178]⟩, ⟨23, false, false, []⟩, ⟨24, false, false, []⟩] (by kernel_rfl) ?_
   refine gg (k := ?_)
   conv => whnf
   refine gcl (hA := fun hG => ⟨trivial, hG, hG, hG, trivial⟩) (k := ?_)
   refine cdet (armS_vc s3.onS rfl (fs.getD (k2' : Int).toNat fall0).N (fs.getD (k2' : Int).toNat fall0).P hfN2 hfP2 2 3) Tryz.call30 [36, 37] ?_
   have hw4 := hwo.armS hfN2 hfP2
   have hd4 : (s3.onS.armS (fs.getD (k2' : Int).toNat fall0).N (fs.getD (k2' : Int).toNat fall0).P).dd = false := rfl
   have hc4 : t = 3 → Calm (s3.onS.armS (fs.getD (k2' : Int).toNat fall0).N (fs.getD (k2' : Int).toNat fall0).P) := fun q => by omega
   generalize s3.onS.armS (fs.getD (k2' : Int).toNat fall0).N (fs.getD (k2' : Int).toNat fall0).P = s4 at hw4 hd4 hc4 ⊢
   (
 rcases hw4.opn hd4 la lb with ⟨e0, hn5⟩ | ⟨e6, hd5, hw5⟩
 ·(
 have hop := spec_mono (open_vc s4 c hw4.go (by omega) la lb rfl hd4 2 3) fun X H q => q.1 e0
 generalize (s4.opn c).2 = s5 at hop hn5
 refine gg (k := ?_)
 refine cmks (hop) Tryz.call17 (had := ⟨⟨_, rfl, Nat.lt_succ_self vs⟩, ⟨_, rfl, Nat.lt_succ_self va⟩, ⟨_, rfl, Nat.lt_succ_self vb⟩, trivial⟩) (hz := fun r hr => by match r, hr with | 0, _ => rfl | 1, _ => rfl) 2 [36, 37, 0, 0, 0, 0, 0, 0, 0, 0, 0, 0, 0, 0, 0, 0, 0, 0, 0, 0, 0, 0, 0, 0, 0, 0, 0, 0, 0, 0, 0, 0, 0, 0, 0, 0, 0, 0, 0, 44, 0, 0, 0, 0, 0, 0, 0, 0, 0, 0, 0, 0, 0, 0, 0, 0, 0, 0, 0, 0, 0, 0, 0, 0, 0, 0, 0, 0, 0, 0, 0, 0, 0, 0, 0, 0, 0, 0, 0, 0, 45, 46] [0, 0, 0, 0, 0, 0, 0, 0, 0, 0, 0, 0, 0, 0, 0, 0, 0, 0, 0, 0, 0, 0, 0, 0, 0, 0, 0, 0, 0, 0, 0, 0, 0, 0, 0, 0, 0, 0, 0, (vs + 1), 0, 0, 0, 0, 0, 0, 0, 0, 0, 0, 0, 0, 0, 0, 0, 0, 0, 0, 0, 0, 0, 0, 0, 0, 0, 0, 0, 0, 0, 0, 0, 0, 0, 0, 0, 0, 0, 0, 0, 0, (va + 1), (vb + 1)] [39, 80, 81] ?_
 refine gg (k := ?_)
 refine gcl (k := ?_)
 refine cdet (spec_dead_b s5 false hn5.dd 2 3) Tryz.call31 [36, 37] ?_
 refine gg (k := ?_)
 refine gcl (k := ?_)
 refine cdet (armS_vc s5 hn5.dd 0 0 (by decide) (by decide) 2 3) Tryz.call30 [36, 37] ?_
 have hn6 := hn5.armS (x := 0) (y := 0) (by decide) (by decide)
 obtain ⟨M6, lk6, rm6⟩ := hn6.look
 refine gg (k := ?_)
 have hl6 := hn6.len
 refine cmks (holds_vc (s5.armS 0 0) c lk6 rm6 hn6.go la lb hn6.ok (by omega) R2 hfact.1 (by have := hfact.2.1; omega) ((c * y - 16 : Nat) : Int) (1 + (vs + 1)) (2 + (va + 1)) (2 + (vb + 1)) 2 3 (1 + (v 99 + 1))) Tryz.call18 6 [44, 45, 46, 36, 37, 99] [0, 0, 0, 0, 0, 0] [] ?_
 by_cases heq : eqR Rc R2 = true
 ·have hRR : Rc = R2 := eq_of_eqR hn6.lv hfact.2.2 (of_decide_eq_true heq)
  rw [heq]
  refine gg (k := ?_)
  refine back_le (leS_move 99 56 (vm + 1) rfl rfl rfl (Nat.lt_succ_self vm) rfl (leTm_set (k := 12) rfl)) ?_
  dsimp only [setL]
  refine back_at ⟨i + 1, k2' + 1, s5.armS 0 0, R2, (1 + (vs + 1)), (2 + (va + 1)), (2 + (vb + 1)), vm + 1⟩ ⟨hlt, by show k2' + 1 ≤ 5 * (i + 1); omega, by rw [← hRR]; exact hn6.mono (by show 6 * i + 1 + t + 1 ≤ 6 * (i + 1); omega), rfl, rfl⟩ hdec ?_ ?_
  ·exact no_implicit_lambda% ten
  ·exact no_implicit_lambda% hen
 ·have hRR : Rc = R := hRc.resolve_right fun q => heq (by rw [q]; exact eqR_self R2)
  have heq0 : eqR Rc R2 = false := by simpa using heq
  rw [heq0]
  refine gg (k := ?_)
  refine cmks (holds_vc (s5.armS 0 0) c lk6 rm6 hn6.go la lb hn6.ok (by omega) R hok (by omega) ((c * y - 16 : Nat) : Int) (1 + (vs + 1)) (2 + (va + 1)) (2 + (vb + 1)) 2 3 vm) Tryz.call18 6 [44, 45, 46, 36, 37, 56] [0, 0, 0, 0, 0, 0] [] ?_
  rw [show eqR Rc R = true by rw [hRR]; exact eqR_self R]
  refine gg (k := ?_)
  refine back_at ⟨i + 1, k2' + 1, s5.armS 0 0, R, (1 + (vs + 1)), (2 + (va + 1)), (2 + (vb + 1)), vm⟩ ⟨hlt, by show k2' + 1 ≤ 5 * (i + 1); omega, by rw [← hRR]; exact hn6.mono (by show 6 * i + 1 + t + 1 ≤ 6 * (i + 1); omega), rfl, rfl⟩ hdec ?_ ?_
  ·exact no_implicit_lambda% ten
  ·exact no_implicit_lambda% hen)
 ·(
 have ht3 : t < 3 := by
  rcases Nat.lt_or_eq_of_le t1 with q | q
  ·exact q
  ·have := (hw4.opnC (hc4 q) la lb).1
   rw [e6] at this; cases this
 have hop := spec_mono (open_vc s4 c hw4.go (by omega) la lb rfl hd4 2 3) fun X H q => q.2 (by rw [e6]; decide)
 rw [e6] at hop
 generalize (s4.opn c).2 = s5 at hop hd5 hw5
 refine gg (k := ?_)
 refine cmks (hop) Tryz.call17 2 [36, 37] [0, 0] [] ?_
 refine gg (k := ?_)
 refine gcl (k := ?_)
 refine cdet (spec_dead_b s5 true hd5 2 3) Tryz.call31 [36, 37] ?_
 refine gg (k := ?_)
 refine back_at ⟨t + 1, k2' + 1, s5⟩ ⟨by show t + 1 ≤ 3; omega, by show k2' + 1 ≤ 5 * i + 1 + (t + 1); omega, hd5, hw5⟩ (by show 4 - (t + 1) < 4 - t; omega) ?_ ?_
 ·exact no_implicit_lambda% ten
 ·exact no_implicit_lambda% hen))
  ·have hq : (decide ((t : Int) < 3) && decide ((k2' : Int) < (fs.length : Int))) = false := by
     rw [Bool.and_eq_false_iff, decide_eq_false_iff_not, decide_eq_false_iff_not]; omega
   (refine sts (k := ?_))
   refine draw_of (p := 0) tbOk hm [0, 1, 3, 7, 7, 23, 63, 127, 255, 511, 511, 511, 3583, 7679, 15871, 32255, 511, 511, 197119, 459263, 983551, 2032127, 4194303, 8388607, 16777215] [⟨0, false, false, []⟩, ⟨1, false, false, []⟩, ⟨2, false, false, []⟩, ⟨3, false, false, []⟩, ⟨4, false, false, []⟩, ⟨5, true, false, [157, 160, 161, 162, 163, 164, 165, 166, 167, 168, 169, 170, 171, 172, 173, 174, 175, 176, 177, 178]⟩, ⟨6, false, false, []⟩, ⟨7, false, false, []⟩, ⟨8, false, false, []⟩, ⟨9, false, false, []⟩, ⟨10, false, false, []⟩, ⟨11, false, false, []⟩, ⟨12, true, false, [163, 167, 168, 169, 170, 171, 172, 173, 174, 175, 176, 177, 178]⟩, ⟨13, true, false, [163, 168, 169, 170, 171, 172, 173, 174, 175, 176, 177, 178]⟩, ⟨14, true, false, [163, 169, 170, 171, 172, 173, 174, 175, 176, 177, 178]⟩, ⟨15, true, false, [163, 170, 171, 172, 173, 174, 175, 176, 177, 178]⟩, ⟨16, false, false, []⟩, ⟨17, false, false, []⟩, ⟨18, true, false, [163, 164, 165, 166, 167, 168, 169, 173, 174, 175, 176, 177, 178]⟩, ⟨19, true, false, [163, 164, 165, 166, 167, 168, 169, 174, 175, 176, 177, 178]⟩, ⟨20, true, false, [163, 164, 165, 166, 167, 168, 169, 175, 176, 177, 178]⟩, ⟨21, true, false, [163, 164, 165, 166, 167, 168, 169, 176, 177, 178]⟩, ⟨22, true, true, [177, 178]⟩, ⟨23, false, false, []⟩, ⟨24, false, false, []⟩] (by kernel_rfl) ?_
   refine gg (k := ?_)
   have hw4 := hwo
   have hd4 : s3.onS.dd = false := rfl
   have hc4 : t = 3 → Calm s3.onS := fun _ => ⟨rfl, rfl⟩
   generalize s3.onS = s4 at hw4 hd4 hc4 ⊢
   intro _
   refine gg (k := ?_)
   rw [hq]
   (
 rcases hw4.opn hd4 la lb with ⟨e0, hn5⟩ | ⟨e6, hd5, hw5⟩
 ·(
 have hop := spec_mono (open_vc s4 c hw4.go (by omega) la lb rfl hd4 2 3) fun X H q => q.1 e0
 generalize (s4.opn c).2 = s5 at hop hn5
 refine gg (k := ?_)
 refine cmks (hop) Tryz.call17 (had := ⟨⟨_, rfl, Nat.lt_succ_self vs⟩, ⟨_, rfl, Nat.lt_succ_self va⟩, ⟨_, rfl, Nat.lt_succ_self vb⟩, trivial⟩) (hz := fun r hr => by match r, hr with | 0, _ => rfl | 1, _ => rfl) 2 [36, 37, 0, 0, 0, 0, 0, 0, 0, 0, 0, 0, 0, 0, 0, 0, 0, 0, 0, 0, 0, 0, 0, 0, 0, 0, 0, 0, 0, 0, 0, 0, 0, 0, 0, 0, 0, 0, 0, 44, 0, 0, 0, 0, 0, 0, 0, 0, 0, 0, 0, 0, 0, 0, 0, 0, 0, 0, 0, 0, 0, 0, 0, 0, 0, 0, 0, 0, 0, 0, 0, 0, 0, 0, 0, 0, 0, 0, 0, 0, 45, 46] [0, 0, 0, 0, 0, 0, 0, 0, 0, 0, 0, 0, 0, 0, 0, 0, 0, 0, 0, 0, 0, 0, 0, 0, 0, 0, 0, 0, 0, 0, 0, 0, 0, 0, 0, 0, 0, 0, 0, (vs + 1), 0, 0, 0, 0, 0, 0, 0, 0, 0, 0, 0, 0, 0, 0, 0, 0, 0, 0, 0, 0, 0, 0, 0, 0, 0, 0, 0, 0, 0, 0, 0, 0, 0, 0, 0, 0, 0, 0, 0, 0, (va + 1), (vb + 1)] [39, 80, 81] ?_
 refine gg (k := ?_)
 refine gcl (k := ?_)
 refine cdet (spec_dead_b s5 false hn5.dd 2 3) Tryz.call31 [36, 37] ?_
 refine gg (k := ?_)
 refine gcl (k := ?_)
 refine cdet (armS_vc s5 hn5.dd 0 0 (by decide) (by decide) 2 3) Tryz.call30 [36, 37] ?_
 have hn6 := hn5.armS (x := 0) (y := 0) (by decide) (by decide)
 obtain ⟨M6, lk6, rm6⟩ := hn6.look
 refine gg (k := ?_)
 have hl6 := hn6.len
 refine cmks (holds_vc (s5.armS 0 0) c lk6 rm6 hn6.go la lb hn6.ok (by omega) R2 hfact.1 (by have := hfact.2.1; omega) ((c * y - 16 : Nat) : Int) (1 + (vs + 1)) (2 + (va + 1)) (2 + (vb + 1)) 2 3 (1 + (v 99 + 1))) Tryz.call18 6 [44, 45, 46, 36, 37, 99] [0, 0, 0, 0, 0, 0] [] ?_
 by_cases heq : eqR Rc R2 = true
 ·have hRR : Rc = R2 := eq_of_eqR hn6.lv hfact.2.2 (of_decide_eq_true heq)
  rw [heq]
  refine gg (k := ?_)
  refine back_le (leS_move 99 56 (vm + 1) rfl rfl rfl (Nat.lt_succ_self vm) rfl (leTm_set (k := 12) rfl)) ?_
  dsimp only [setL]
  refine back_at ⟨i + 1, k2' + 1, s5.armS 0 0, R2, (1 + (vs + 1)), (2 + (va + 1)), (2 + (vb + 1)), vm + 1⟩ ⟨hlt, by show k2' + 1 ≤ 5 * (i + 1); omega, by rw [← hRR]; exact hn6.mono (by show 6 * i + 1 + t + 1 ≤ 6 * (i + 1); omega), rfl, rfl⟩ hdec ?_ ?_
  ·exact no_implicit_lambda% ten
  ·exact no_implicit_lambda% hen
 ·have hRR : Rc = R := hRc.resolve_right fun q => heq (by rw [q]; exact eqR_self R2)
  have heq0 : eqR Rc R2 = false := by simpa using heq
  rw [heq0]
  refine gg (k := ?_)
  refine cmks (holds_vc (s5.armS 0 0) c lk6 rm6 hn6.go la lb hn6.ok (by omega) R hok (by omega) ((c * y - 16 : Nat) : Int) (1 + (vs + 1)) (2 + (va + 1)) (2 + (vb + 1)) 2 3 vm) Tryz.call18 6 [44, 45, 46, 36, 37, 56] [0, 0, 0, 0, 0, 0] [] ?_
  rw [show eqR Rc R = true by rw [hRR]; exact eqR_self R]
  refine gg (k := ?_)
  refine back_at ⟨i + 1, k2' + 1, s5.armS 0 0, R, (1 + (vs + 1)), (2 + (va + 1)), (2 + (vb + 1)), vm⟩ ⟨hlt, by show k2' + 1 ≤ 5 * (i + 1); omega, by rw [← hRR]; exact hn6.mono (by show 6 * i + 1 + t + 1 ≤ 6 * (i + 1); omega), rfl, rfl⟩ hdec ?_ ?_
  ·exact no_implicit_lambda% ten
  ·exact no_implicit_lambda% hen)
 ·(
 have ht3 : t < 3 := by
  rcases Nat.lt_or_eq_of_le t1 with q | q
  ·exact q
  ·have := (hw4.opnC (hc4 q) la lb).1
   rw [e6] at this; cases this
 have hop := spec_mono (open_vc s4 c hw4.go (by omega) la lb rfl hd4 2 3) fun X H q => q.2 (by rw [e6]; decide)
 rw [e6] at hop
 generalize (s4.opn c).2 = s5 at hop hd5 hw5
 refine gg (k := ?_)
 refine cmks (hop) Tryz.call17 2 [36, 37] [0, 0] [] ?_
 refine gg (k := ?_)
 refine gcl (k := ?_)
 refine cdet (spec_dead_b s5 true hd5 2 3) Tryz.call31 [36, 37] ?_
 refine gg (k := ?_)
 refine back_at ⟨t + 1, k2' + 1, s5⟩ ⟨by show t + 1 ≤ 3; omega, by show k2' + 1 ≤ 5 * i + 1 + (t + 1); omega, hd5, hw5⟩ (by show 4 - (t + 1) < 4 - t; omega) ?_ ?_
 ·exact no_implicit_lambda% ten
 ·exact no_implicit_lambda% hen)))
end Go.Proofs.YtpbpiehcchannaaGreatDoor
