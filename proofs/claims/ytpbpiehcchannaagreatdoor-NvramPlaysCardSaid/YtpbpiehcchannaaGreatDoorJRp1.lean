/- The check sum, bit by bit and by half bytes: the plain law. Conditions: none. -/
import Derived.Test.YtpbpiehcchannaaGreatDoorJGa
namespace Go.Proofs.YtpbpiehcchannaaGreatDoor
set_option linter.unusedVariables false
set_option linter.unusedSimpArgs false
def dT(x:Nat):Nat:=(x>>>1)^^^(if x%2=1 then 3988292384 else 0)
theorem wm(a b:Nat):dT (a^^^b)=dT a^^^dT b:=by
 unfold dT
 rw[Nat.shiftRight_xor_distrib]
 have h:= @Nat.xor_mod_two_eq_one a b
 generalize a>>>1=A
 generalize b>>>1=B
 generalize (3988292384:Nat)=P
 by_cases ha:a%2=1<;>by_cases hb:b%2=1<;>by_cases hc:(a^^^b)%2=1<;>simp only[ha,hb,hc,if_true,if_false,Nat.xor_zero,true_iff,false_iff,not_true,not_false_iff,iff_true,iff_false,if_pos,if_neg] at h⊢
 all_goals first
  | (exfalso;omega)
  | (rw[Nat.xor_assoc A P,←Nat.xor_assoc P B P,Nat.xor_comm P B,Nat.xor_assoc B P P,Nat.xor_self,Nat.xor_zero])
  | (rw[Nat.xor_assoc A P B,Nat.xor_comm P B,←Nat.xor_assoc])
  | (rw[Nat.xor_assoc])
  | rfl
theorem wo(m:Nat):dT (2*m)=m:=by
 unfold dT
 rw[if_neg (by omega),Nat.xor_zero,Nat.shiftRight_eq_div_pow]
 omega
theorem Oq(x:Nat):x=(16*(x/16))^^^(x%16):=by
 apply Nat.eq_of_testBit_eq
 intro j
 have h1:=Nat.testBit_two_pow_mul_add (i:=4) (x/16) (b:=x%16) (show x%16<2^4 by omega) j
 have h2:=Nat.testBit_two_pow_mul (i:=4) (a:=x/16) (j:=j)
 rw[show 2^4*(x/16)+x%16=x by omega] at h1
 rw[Nat.testBit_xor,show 16*(x/16)=2^4*(x/16) by omega,h2,h1]
 by_cases hj:j<4
 ·rw[if_pos hj,decide_eq_false (show¬4≤j by omega)]
  simp
 ·rw[if_neg hj]
  have h3:(x%16).testBit j=false:=Nat.testBit_lt_two_pow (Nat.lt_of_lt_of_le (show x%16<2^4 by omega) (Nat.pow_le_pow_right (by decide) (by omega:4≤j)))
  rw[h3]
  simp[Nat.not_lt.1 hj]
theorem Ot:∀r,r<16→dT (dT (dT (dT r)))=(lX.getD r 0).toNat:=by decide
theorem Ou(x:Nat):dT (dT (dT (dT x)))=(x/16)^^^(lX.getD (x%16) 0).toNat:=by
 have h:=Oq x
 have e:dT (dT (dT (dT x)))=dT (dT (dT (dT ((16*(x/16))^^^(x%16))))):=by rw[←h]
 rw[e,wm,wm,wm,wm,Ot _ (show x%16<16 by omega),show 16*(x/16)=2*(2*(2*(2*(x/16)))) by omega,wo,wo,wo,wo]
theorem Gq(x:Nat):nV (x:Int)=((dT (dT (dT (dT x))):Nat):Int):=by
 rw[Ou]
 unfold nV
 have h1:((x:Int)/2^(4:Int).toNat).toNat=x/16:=by
  rw[show(2:Int)^(4:Int).toNat=16 from rfl];omega
 have h2:(((x:Int).toNat&&&15:Nat):Int).toNat=x%16:=by
  rw[Int.toNat_natCast,Int.toNat_natCast]
  exact Nat.and_two_pow_sub_one_eq_mod x 4
 rw[h1,h2]
def mX(x b:Nat):Nat:=(x>>>1)^^^(if(x^^^b)%2=1 then 3988292384 else 0)
theorem Ov(z b:Nat):mX (z^^^b) b=dT z^^^(b>>>1):=by
 unfold mX dT
 rw[Nat.shiftRight_xor_distrib,Nat.xor_assoc z b b,Nat.xor_self,Nat.xor_zero]
 rw[Nat.xor_assoc,Nat.xor_comm (b>>>1),←Nat.xor_assoc]
def mY(x b:Nat):Nat→Nat
 | 0=>x
 | i+1=>mX (mY x b i) (b>>>i)
def AO(x:Nat):Nat→Nat
 | 0=>x
 | i+1=>dT (AO x i)
theorem Gr(x b:Nat):∀i,mY x b i=AO (x^^^b) i^^^(b>>>i)
 | 0=>by
  show x=(x^^^b)^^^(b>>>0)
  rw[Nat.shiftRight_zero,Nat.xor_assoc,Nat.xor_self,Nat.xor_zero]
 | i+1=>by
  rw[mY,Gr x b i,Ov,AO]
  rfl
theorem MX(x b:Nat)(hb:b<256):((mY x b 8:Nat):Int)=j6 2 ((x^^^b:Nat):Int):=by
 rw[Gr,show b>>>8=0 by rw[Nat.shiftRight_eq_div_pow];omega,Nat.xor_zero]
 rw[j6,j6,j6,Gq,Gq]
 rfl
theorem Ow(x b:Nat)(h:x≤4294967295):mX x b≤4294967295:=by
 unfold mX
 rw[Nat.shiftRight_eq_div_pow]
 split
 ·exact qL (by omega) (by decide)
 ·rw[Nat.xor_zero];omega
theorem Af(x b:Nat)(h:x≤4294967295)(hb:b<256):∀i,mY x b i≤4294967295
 | 0=>h
 | i+1=>Ow _ _ (Af x b h hb i)
end Go.Proofs.YtpbpiehcchannaaGreatDoor
