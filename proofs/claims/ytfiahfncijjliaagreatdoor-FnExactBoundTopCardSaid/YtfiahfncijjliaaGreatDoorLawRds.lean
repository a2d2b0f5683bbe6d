import Derived.Test.YtfiahfncijjliaaGreatDoorLawKeep
import Derived.Test.YtfiahfncijjliaaGreatDoorModel
import Derived.Test.YtfiahfncijjliaaGreatDoorLawBase
import Derived.Test.YtfiahfncijjliaaGreatDoorLawSegs
/-
  Fractions: the program's and the reference's greatest common divisors, lowest terms, and so many times a fraction.
-/
set_option linter.unusedVariables false
set_option maxRecDepth 100000
namespace Go.Fk
open Go
theorem tmod_nat (m n:Nat):((m:Int)).tmod (n:Int)=((m%n:Nat):Int):=by rw [←Int.ofNat_tmod]
theorem tdiv_nat (m n:Nat):((m:Int)).tdiv (n:Int)=((m/n:Nat):Int):=by rw [←Int.ofNat_tdiv]
theorem gcd_while {f:Int×Int→Option ((Int×Int)⊕Int)}(hf:f=fun (s11:Int×Int)=>(cond (!(s11.2==(0:Int))) (Option.bind (remI s11.1 s11.2) fun x26=>(some (.inl (s11.2,x26)))) (some (.inr s11.1)))): ∀(n m F:Nat),n<F→whileM f F ((m:Int),(n:Int))=some ((Nat.gcd m n:Nat):Int):=by
 intro n
 induction n using Nat.strongRecOn with
 | _ n ih=>
  intro m F hF
  obtain⟨F,rfl⟩: ∃G,F=G+1:=⟨F-1,by omega⟩
  rw [whileM]
  by_cases h:n=0
  ·subst h
   rw [hf];simp
  ·have h1:f ((m:Int),(n:Int))=some (.inl ((n:Int),((m%n:Nat):Int))):=by
    rw [hf]
    dsimp only
    rw [beq_eq_false_iff_ne.2 (by omega),Bool.not_false,cond_true]
    unfold remI
    rw [if_neg (by omega),Option.bind_some,tmod_nat]
   have hlt:m%n<n:=Nat.mod_lt _ (by omega)
   rw [h1]
   show whileM f F _=_
   rw [ih (m%n) hlt n F (by omega),Nat.gcd_comm n,←Nat.gcd_rec,Nat.gcd_comm]
theorem impl_div (F:Nat)(m n:Nat)(hm:m≤1000000000000)(hn:n≤1000000000000)(hF:n<F):M.impl_divisor F (m:Int) (n:Int)=some ((Nat.gcd m n:Nat):Int):=by
 unfold M.impl_divisor
 rw [gcd_while rfl n m F hF,Option.bind_some,Option.bind_some]
 have hg:Nat.gcd m n≤1000000000000:=by
  by_cases h:m=0
  ·subst h;rw [Nat.gcd_zero_left];exact hn
  ·exact Nat.le_trans (Nat.gcd_le_left n (by omega)) hm
 rw [w64_of ⟨by omega,by omega⟩,if_neg (by omega)]
theorem spec_gcd: ∀(F n m:Nat),n<F→m≤1000000000000→n≤1000000000000→M.spec_l10Gcd F (m:Int) (n:Int)=some ((Nat.gcd m n:Nat):Int)
 | 0,n,m,h,_,_=>by omega
 | F+1,n,m,h,hm,hn=>by
  rw [M.spec_l10Gcd]
  dsimp only
  rw [decide_eq_false (by omega),cond_false,Option.bind_some]
  by_cases h0:n=0
  ·subst h0;simp
  ·rw [beq_eq_false_iff_ne.2 (by omega),cond_false]
   unfold remI
   have hlt:m%n<n:=Nat.mod_lt _ (by omega)
   rw [if_neg (by omega),Option.bind_some,tmod_nat,spec_gcd F (m%n) n (by omega) (by omega) (by omega),Nat.gcd_comm n,←Nat.gcd_rec,Nat.gcd_comm];rfl
def lowU (a b:Nat):Int:=((a/Nat.gcd a b:Nat):Int)
def lowD (a b:Nat):Int:=((b/Nat.gcd a b:Nat):Int)
theorem low_pos {a b:Nat}(hb:0<b):1≤b/Nat.gcd a b:=Nat.div_pos (Nat.gcd_le_right a hb) (Nat.gcd_pos_of_pos_right a hb)
theorem low_gcd {a b:Nat}(hb:0<b):Nat.gcd (a/Nat.gcd a b) (b/Nat.gcd a b)=1:=Nat.gcd_div_gcd_div_gcd_of_pos_right hb
theorem impl_ok_low (F a b:Nat)(ha:a≤1000000000)(hb:0<b∧b≤1000000000)(hF:1000000000<F):M.impl_RatOk F ⟨lowU a b,lowD a b⟩=some true:=by
 have h1:a/Nat.gcd a b≤a:=Nat.div_le_self _ _
 have h2:b/Nat.gcd a b≤b:=Nat.div_le_self _ _
 have h3:=low_pos (a:=a) hb.1
 have h5:=low_gcd (a:=a) hb.1
 unfold M.impl_RatOk lowU lowD
 dsimp only
 generalize a/Nat.gcd a b=x at *
 generalize b/Nat.gcd a b=y at *
 rw [withinS,decide_eq_true (by omega),decide_eq_true (by omega),Option.bind_some,Bool.true_and,cond_true,withinS,decide_eq_true (by omega),decide_eq_true (by omega),Option.bind_some,Bool.true_and,cond_true,impl_div F _ _ (by omega) (by omega) (by omega),Option.bind_some,h5];rfl
theorem ratLowI (F a b:Nat)(ha:a≤1000000000)(hb:0<b∧b≤1000000000)(hF:1000000000<F):M.impl_RatOf F (a:Int) (b:Int)=some (⟨lowU a b,lowD a b⟩,true):=by
 have h1:a/Nat.gcd a b≤a:=Nat.div_le_self _ _
 have h2:b/Nat.gcd a b≤b:=Nat.div_le_self _ _
 have hg:=Nat.gcd_pos_of_pos_right a hb.1
 unfold M.impl_RatOf M.impl_lowest
 rw [withinS,decide_eq_true (by omega),decide_eq_true (by omega),Option.bind_some,Bool.true_and,Bool.not_true,cond_false,withinS,decide_eq_true (by omega),decide_eq_true (by omega),Option.bind_some,Bool.true_and,Bool.not_true,cond_false,Option.bind_some,beq_eq_false_iff_ne.2 (by omega),cond_false,decide_eq_false (by omega),cond_false,Option.bind_some]
 dsimp only
 rw [impl_div F a b (by omega) (by omega) (by omega),Option.bind_some]
 unfold quoI
 rw [if_neg (by omega),Option.bind_some,if_neg (by omega),Option.bind_some,tdiv_nat,tdiv_nat]
 have:=impl_ok_low F a b ha hb hF
 unfold lowU lowD at this ⊢
 generalize a/Nat.gcd a b=x at *
 generalize b/Nat.gcd a b=y at *
 rw [w64_of ⟨by omega,by omega⟩,w64_of ⟨by omega,by omega⟩,this];rfl
theorem ratLowS (F a b:Nat)(ha:a≤1000000000)(hb:0<b∧b≤1000000000)(hF:1000000000<F):M.spec_l10Make F (a:Int) (b:Int)=some ⟨lowU a b,lowD a b⟩:=by
 have h1:a/Nat.gcd a b≤a:=Nat.div_le_self _ _
 have h2:b/Nat.gcd a b≤b:=Nat.div_le_self _ _
 have hg:=Nat.gcd_pos_of_pos_right a hb.1
 unfold M.spec_l10Make
 rw [decide_eq_false (by omega),cond_false,Option.bind_some]
 dsimp only
 rw [spec_gcd F b a (by omega) (by omega) (by omega),Option.bind_some]
 unfold quoI
 rw [if_neg (by omega),Option.bind_some,if_neg (by omega),Option.bind_some,tdiv_nat,tdiv_nat]
 unfold lowU lowD
 generalize a/Nat.gcd a b=x at *
 generalize b/Nat.gcd a b=y at *
 rw [w64_of ⟨by omega,by omega⟩,w64_of ⟨by omega,by omega⟩]
def milli (a b:Nat):Nat:=a/Nat.gcd a b*1000/(b/Nat.gcd a b)
theorem impl_milli (F a b:Nat)(ha:a≤1000000000)(hb:0<b∧b≤1000000000)(hF:1000000000<F):M.impl_RatFloor F ⟨lowU a b,lowD a b⟩ 1000=some ((milli a b:Nat):Int):=by
 have h1:a/Nat.gcd a b≤a:=Nat.div_le_self _ _
 have h3:=low_pos (a:=a) hb.1
 have h4:a/Nat.gcd a b*1000/(b/Nat.gcd a b)≤a/Nat.gcd a b*1000:=Nat.div_le_self _ _
 unfold M.impl_RatFloor
 rw [impl_ok_low F a b ha hb hF,Option.bind_some,Bool.not_true,cond_false,withinS,Option.bind_some,Option.bind_some]
 unfold lowU lowD milli
 dsimp only
 generalize a/Nat.gcd a b=x at *
 generalize b/Nat.gcd a b=y at *
 have e:(x:Int)*1000=((x*1000:Nat):Int):=by push_cast;rfl
 rw [e,w64_of ⟨by omega,by omega⟩]
 rw [decide_eq_true (show (1:Int)≤1000 by omega),decide_eq_true (show (1000:Int)≤1000 by omega),Bool.true_and,Bool.not_true,cond_false,decide_eq_true (by omega),cond_true]
 unfold quoI
 generalize hz:x*1000/y=z at *
 rw [if_neg (by omega),Option.bind_some,tdiv_nat,hz,w64_of ⟨by omega,by omega⟩]
theorem spec_milli (a b:Nat)(ha:a≤1000000000)(hb:0<b∧b≤1000000000):(Option.bind (quoI (w64 (lowU a b*(1000:Int))) (lowD a b)) fun x225=>(some x225))=some ((milli a b:Nat):Int):=by
 have h1:a/Nat.gcd a b≤a:=Nat.div_le_self _ _
 have h3:=low_pos (a:=a) hb.1
 have h4:a/Nat.gcd a b*1000/(b/Nat.gcd a b)≤a/Nat.gcd a b*1000:=Nat.div_le_self _ _
 unfold lowU lowD milli
 generalize a/Nat.gcd a b=x at *
 generalize b/Nat.gcd a b=y at *
 have e:(x:Int)*1000=((x*1000:Nat):Int):=by push_cast;rfl
 rw [e,w64_of ⟨by omega,by omega⟩]
 unfold quoI
 generalize hz:x*1000/y=z at *
 rw [if_neg (by omega),Option.bind_some,tdiv_nat,hz,w64_of ⟨by omega,by omega⟩]
def rareN:Nat→Nat→Nat→Nat
 | 0,_,_=>0
 | k+1,df,docs=>if 2*df≤docs then rareN k (2*df) docs+1 else 0
theorem rareN_le: ∀k df docs,rareN k df docs≤k
 | 0,_,_=>Nat.le_refl _
 | k+1,df,docs=>by
  have:=rareN_le k (2*df) docs
  unfold rareN
  split<;>omega
theorem spec_rare_at {f:Int×Int→Option ((Int×Int)⊕Int)}(docs:Nat)(hd:docs≤100)(hf:f=fun (s11:Int×Int)=>(Option.bind ((cond (decide ((0:Int)<s11.1)) (some (decide ((w64 (s11.1*(2:Int)))≤(docs:Int)))) (some false)):Option Bool) fun o24=>(cond o24 (some (.inl ((w64 (s11.1*(2:Int))),(w64 (s11.2+(1:Int)))))) (some (.inr s11.2))))):
  ∀(k df n F:Nat),0<df→docs<df*2 ^ k→k<F→n+k≤1000→df≤1000→whileM f F ((df:Int),(n:Int))=some ((n+rareN k df docs:Nat):Int)
 | 0,df,n,F,h0,hk,hF,hn,hdf=>by
  obtain⟨F,rfl⟩: ∃G,F=G+1:=⟨F-1,by omega⟩
  have h1:f ((df:Int),(n:Int))=some (.inr (n:Int)):=by
   rw [hf]
   dsimp only
   rw [decide_eq_true (by omega),cond_true,w64_of ⟨by omega,by omega⟩,decide_eq_false (by simp at hk;omega)];rfl
  rw [whileM,h1];rfl
 | k+1,df,n,F,h0,hk,hF,hn,hdf=>by
  obtain⟨F,rfl⟩: ∃G,F=G+1:=⟨F-1,by omega⟩
  rw [whileM]
  by_cases h:2*df≤docs
  ·have h1:f ((df:Int),(n:Int))=some (.inl (((2*df:Nat):Int),((n+1:Nat):Int))):=by
    rw [hf]
    dsimp only
    rw [decide_eq_true (by omega),cond_true,w64_of ⟨by omega,by omega⟩,decide_eq_true (by omega),w64_succ' (by omega),Option.bind_some,cond_true]
    congr 3;push_cast;omega
   rw [h1]
   show whileM f F _=_
   rw [spec_rare_at docs hd hf k (2*df) (n+1) F (by omega) (by rw [Nat.pow_succ] at hk;rw [Nat.mul_comm 2 df,Nat.mul_assoc,Nat.mul_comm 2];exact hk) (by omega) (by omega) (by omega)]
   rw [rareN,if_pos h]
   congr 1;omega
  ·have h1:f ((df:Int),(n:Int))=some (.inr (n:Int)):=by
    rw [hf]
    dsimp only
    rw [decide_eq_true (by omega),cond_true,w64_of ⟨by omega,by omega⟩,decide_eq_false (by omega)];rfl
   rw [h1,rareN,if_neg h];rfl
theorem spec_rare (F df docs:Nat)(h0:0<df)(hd:df≤docs)(h16:docs≤16)(hF:100<F):M.spec_l12Rare F (df:Int) (docs:Int)=some ((rareN 5 df docs:Nat):Int):=by
 unfold M.spec_l12Rare
 have:=spec_rare_at docs (by omega) rfl 5 df 0 F h0 (by omega) (by omega) (by omega) (by omega)
 rw [Nat.zero_add] at this
 show (Option.bind (Option.bind (whileM _ F ((df:Int),((0:Nat):Int))) _) _)=_
 rw [this];rfl
theorem shl_nat (df n:Nat)(hn:n≤20)(hdf:df≤16):shlI (df:Int) (w64 ((n:Int)+1))=some ((df*2 ^ n*2:Nat):Int):=by
 have hp:2 ^ n≤2 ^ 20:=Nat.pow_le_pow_right (by omega) hn
 have hq:df*2 ^ n≤16*2 ^ 20:=Nat.mul_le_mul hdf hp
 rw [w64_succ' (by omega)]
 unfold shlI
 rw [if_neg (by omega),Int.toNat_natCast,Nat.min_eq_left (by omega),Int.pow_succ,←Int.mul_assoc]
 have e:(df:Int)*2 ^ n*2=((df*2 ^ n*2:Nat):Int):=by push_cast;rfl
 rw [e,w64_of ⟨by omega,by omega⟩]
theorem impl_rare_at {f:Int→Option (Int⊕Int)}(df docs:Nat)(hd:docs≤16)(hdf:df≤16)(hf:f=fun (s75:Int)=>(Option.bind (shlI (df:Int) (w64 (s75+(1:Int)))) fun x87=>(cond (decide (x87≤(docs:Int))) (some (.inl (w64 (s75+(1:Int))))) (some (.inr s75))))):
  ∀(k n F:Nat),docs<df*2 ^ n*2 ^ k→k<F→n+k≤10→whileM f F (n:Int)=some ((n+rareN k (df*2 ^ n) docs:Nat):Int)
 | 0,n,F,hk,hF,hn=>by
  obtain⟨F,rfl⟩: ∃G,F=G+1:=⟨F-1,by omega⟩
  rw [Nat.pow_zero,Nat.mul_one] at hk
  have h1:f (n:Int)=some (.inr (n:Int)):=by
   rw [hf]
   dsimp only
   rw [shl_nat df n (by omega) hdf,Option.bind_some,decide_eq_false (by omega)];rfl
  rw [whileM,h1];rfl
 | k+1,n,F,hk,hF,hn=>by
  obtain⟨F,rfl⟩: ∃G,F=G+1:=⟨F-1,by omega⟩
  rw [whileM]
  by_cases h:2*(df*2 ^ n)≤docs
  ·have h1:f (n:Int)=some (.inl ((n+1:Nat):Int)):=by
    rw [hf]
    dsimp only
    rw [shl_nat df n (by omega) hdf,Option.bind_some,decide_eq_true (by omega),w64_succ' (by omega)];rfl
   have e:df*2 ^ (n+1)=2*(df*2 ^ n):=by rw [Nat.pow_succ,←Nat.mul_assoc,Nat.mul_comm 2]
   rw [h1]
   show whileM f F _=_
   rw [impl_rare_at df docs hd hdf hf k (n+1) F (by rw [e,Nat.mul_comm 2,Nat.mul_assoc,←Nat.pow_succ'];exact hk) (by omega) (by omega),e]
   rw [rareN,if_pos h]
   congr 1;omega
  ·have h1:f (n:Int)=some (.inr (n:Int)):=by
    rw [hf]
    dsimp only
    rw [shl_nat df n (by omega) hdf,Option.bind_some,decide_eq_false (by omega)];rfl
   rw [h1,rareN,if_neg h];rfl
def upN (tf docs df:Nat):Nat:=22*tf*(rareN 5 df docs+1)
def downN (tf long total docs:Nat):Nat:=10*tf+3+9*long*docs/total
structure ScoreOk (tf long total docs df:Nat):Prop where
 h1:1≤tf∧tf≤80
 h2:tf≤long∧long≤80
 h3:long≤total∧total≤1280
 h4:1≤docs∧docs≤16
 h5:1≤df∧df≤docs
theorem up_le {tf long total docs df:Nat}(h:ScoreOk tf long total docs df):upN tf docs df≤1000000:=by
 have h1:=rareN_le 5 df docs
 have h2:=h.h1
 unfold upN
 calc 22*tf*(rareN 5 df docs+1)≤22*80*6:=Nat.mul_le_mul (by omega) (by omega)
  _≤1000000:=by decide
theorem down_le {tf long total docs df:Nat}(h:ScoreOk tf long total docs df):0<downN tf long total docs∧downN tf long total docs≤1000000:=by
 have h2:=h.h1
 have h3:9*long*docs/total≤9*long*docs:=Nat.div_le_self _ _
 have h4:9*long*docs≤9*80*16:=Nat.mul_le_mul (by have:=h.h2;omega) (by have:=h.h4;omega)
 unfold downN
 generalize 9*long*docs/total=q at *
 omega
theorem w64_mul {a b:Nat}(h:a*b≤1000000000000000):w64 ((a:Int)*(b:Int))=((a*b:Nat):Int):=by
 have e:(a:Int)*(b:Int)=((a*b:Nat):Int):=by push_cast;rfl
 rw [e,w64_nat (by omega)]
theorem w64_sum {a b:Nat}(h:a+b≤1000000000000000):w64 ((a:Int)+(b:Int))=((a+b:Nat):Int):=by
 have e:(a:Int)+(b:Int)=((a+b:Nat):Int):=by push_cast;rfl
 rw [e,w64_nat (by omega)]
theorem quo_nat {a b:Nat}(hb:0<b)(h:a≤1000000000000000):quoI (a:Int) (b:Int)=some ((a/b:Nat):Int):=by
 have:a/b≤a:=Nat.div_le_self _ _
 unfold quoI
 rw [if_neg (by omega),tdiv_nat,w64_nat (by omega)]
theorem impl_term (F tf long total docs df:Nat)(h:ScoreOk tf long total docs df)(hF:1000000000<F):M.impl_TermScore F (tf:Int) (long:Int) (total:Int) (docs:Int) (df:Int)=some (⟨lowU (upN tf docs df) (downN tf long total docs),lowD (upN tf docs df) (downN tf long total docs)⟩,true):=by
 obtain⟨⟨a1,a2⟩,⟨b1,b2⟩,⟨c1,c2⟩,⟨d1,d2⟩,⟨e1,e2⟩⟩:=h
 have hh:ScoreOk tf long total docs df:=⟨⟨a1,a2⟩,⟨b1,b2⟩,⟨c1,c2⟩,⟨d1,d2⟩,⟨e1,e2⟩⟩
 have hu:=up_le hh
 have hd:=down_le hh
 have hr:=rareN_le 5 df docs
 unfold M.impl_TermScore
 simp only [withinS,Option.bind_some]
 rw [decide_eq_true (show (1:Int)≤(tf:Int) by omega),decide_eq_true (show (tf:Int)≤80 by omega),decide_eq_true (show (tf:Int)≤(long:Int) by omega),decide_eq_true (show (long:Int)≤80 by omega),decide_eq_true (show (1:Int)≤(docs:Int) by omega),decide_eq_true (show (docs:Int)≤16 by omega),decide_eq_true (show (1:Int)≤(df:Int) by omega),decide_eq_true (show (df:Int)≤(docs:Int) by omega),decide_eq_true (show (long:Int)≤(total:Int) by omega),decide_eq_true (show (total:Int)≤1280 by omega)]
 simp only [Bool.true_and,Bool.not_true,cond_false,Option.bind_some]
 have hrare:=impl_rare_at df docs d2 (by omega) rfl 5 0 F (by simp;omega) (by omega) (by omega)
 rw [Nat.zero_add,Nat.pow_zero,Nat.mul_one] at hrare
 rw [show ((0:Int))=((0:Nat):Int) from rfl,hrare,Option.bind_some]
 have hm4:9*long*docs≤9*80*16:=Nat.mul_le_mul (by omega) (by omega)
 have hq:9*long*docs/total≤9*long*docs:=Nat.div_le_self _ _
 have k1:w64 ((w64 ((9:Int)*(long:Int)))*(docs:Int))=((9*long*docs:Nat):Int):=by
  rw [show w64 ((9:Int)*(long:Int))=((9*long:Nat):Int) from w64_mul (a:=9) (by omega),w64_mul (by omega)]
 have hu2:22*tf*(rareN 5 df docs+1)≤1000000:=hu
 have k2:w64 ((w64 ((22:Int)*(tf:Int)))*(w64 (((rareN 5 df docs:Nat):Int)+1)))=((upN tf docs df:Nat):Int):=by
  rw [show w64 ((22:Int)*(tf:Int))=((22*tf:Nat):Int) from w64_mul (a:=22) (by omega),w64_succ' (by omega),w64_mul (by omega)];rfl
 have k3:w64 ((w64 ((w64 ((10:Int)*(tf:Int)))+(3:Int)))+((9*long*docs/total:Nat):Int))=((downN tf long total docs:Nat):Int):=by
  rw [show w64 ((10:Int)*(tf:Int))=((10*tf:Nat):Int) from w64_mul (a:=10) (by omega),show w64 (((10*tf:Nat):Int)+3)=((10*tf+3:Nat):Int) from w64_sum (b:=3) (by omega),w64_sum (by omega)];rfl
 rw [k1,quo_nat (by omega) (by omega),Option.bind_some,Option.bind_some,k2,k3,ratLowI F _ _ (by omega) ⟨hd.1,by omega⟩ hF];rfl
theorem spec_term (F tf long total docs df:Nat)(h:ScoreOk tf long total docs df)(hF:1000000000<F):M.spec_l12Term F (tf:Int) (long:Int) (total:Int) (docs:Int) (df:Int)=some ⟨lowU (upN tf docs df) (downN tf long total docs),lowD (upN tf docs df) (downN tf long total docs)⟩:=by
 obtain⟨⟨a1,a2⟩,⟨b1,b2⟩,⟨c1,c2⟩,⟨d1,d2⟩,⟨e1,e2⟩⟩:=h
 have hh:ScoreOk tf long total docs df:=⟨⟨a1,a2⟩,⟨b1,b2⟩,⟨c1,c2⟩,⟨d1,d2⟩,⟨e1,e2⟩⟩
 have hu:=up_le hh
 have hd:=down_le hh
 have hr:=rareN_le 5 df docs
 unfold M.spec_l12Term
 have hm4:long*docs*9≤80*16*9:=Nat.mul_le_mul_right _ (Nat.mul_le_mul (by omega) (by omega))
 have hm5:long*docs≤80*16:=Nat.mul_le_mul (by omega) (by omega)
 have e3:long*docs*9=9*long*docs:=by rw [Nat.mul_comm,Nat.mul_assoc]
 have hq:long*docs*9/total≤long*docs*9:=Nat.div_le_self _ _
 have k1:w64 ((w64 ((long:Int)*(docs:Int)))*(9:Int))=((long*docs*9:Nat):Int):=by
  rw [w64_mul (by omega)];exact w64_mul (b:=9) (by omega)
 have e7:22*tf*(rareN 5 df docs+1)=(1+rareN 5 df docs)*22*tf:=by rw [Nat.mul_comm (22*tf),Nat.add_comm,Nat.mul_assoc]
 have hu2:(1+rareN 5 df docs)*22*tf≤1000000:=by rw [←e7];exact hu
 have k2:w64 ((w64 ((w64 ((1:Int)+((rareN 5 df docs:Nat):Int)))*(22:Int)))*(tf:Int))=((upN tf docs df:Nat):Int):=by
  rw [show w64 ((1:Int)+((rareN 5 df docs:Nat):Int))=((1+rareN 5 df docs:Nat):Int) from w64_sum (a:=1) (by omega),show w64 (((1+rareN 5 df docs:Nat):Int)*22)=(((1+rareN 5 df docs)*22:Nat):Int) from w64_mul (b:=22) (by omega),w64_mul (by omega)]
  unfold upN;rw [e7]
 have k3:w64 ((w64 ((w64 ((10:Int)*(tf:Int)))+(3:Int)))+((long*docs*9/total:Nat):Int))=((downN tf long total docs:Nat):Int):=by
  rw [e3];rw [e3] at hq
  rw [show w64 ((10:Int)*(tf:Int))=((10*tf:Nat):Int) from w64_mul (a:=10) (by omega),show w64 (((10*tf:Nat):Int)+3)=((10*tf+3:Nat):Int) from w64_sum (b:=3) (by omega),w64_sum (by omega)];rfl
 rw [decide_eq_true (by omega),cond_true,k1,quo_nat (by omega) (by omega),Option.bind_some,Option.bind_some,spec_rare F df docs e1 e2 d2 (by omega),Option.bind_some,k2,k3,ratLowS F _ _ (by omega) ⟨hd.1,by omega⟩ hF];rfl
def scoreN (tf long total docs df:Nat):Nat:=milli (upN tf docs df) (downN tf long total docs)
end Go.Fk
namespace Go.Fk
open Go
end Go.Fk
namespace Go.Fk
open Go
end Go.Fk
namespace Go.Fk
open Go
end Go.Fk
namespace Go.Fk
open Go
end Go.Fk
namespace Go.Fk
open Go
structure DocDrawn (f n:Nat)(d:GDoc):Prop where
 fields:d.Fields.length≤f
 nums:d.Nums.length≤n
 field: ∀f∈d.Fields,f.Name.length≤1000∧f.Text.length≤1000
 num: ∀a∈d.Nums,a.Name.length≤1000
theorem DocDrawn.fit {f n:Nat}{d:GDoc}(h:DocDrawn f n d)(hf:f≤100)(hn:n≤100):DocFit d:=⟨by have:=h.fields;omega,by have:=h.nums;omega,h.field,h.num⟩
theorem DocDrawn.more {f n f' n':Nat}{d:GDoc}(h:DocDrawn f n d)(hf:f≤f')(hn:n≤n'):DocDrawn f' n' d:=⟨by have:=h.fields;omega,by have:=h.nums;omega,h.field,h.num⟩
def DocsDrawn (k:Nat)(ds:List GDoc):Prop:=ds.length≤k∧∀d∈ds,DocDrawn 3 3 d
theorem DocsDrawn.fit {k:Nat}{ds:List GDoc}(h:DocsDrawn k ds)(hk:k≤100):DocsFit ds:=⟨by have:=h.1;omega,fun d hd=>(h.2 d hd).fit (by omega) (by omega)⟩
end Go.Fk
set_option linter.unusedVariables false
namespace Go.Fk
open Go
def stopsD:List (List Str):=[[],[[116,104,101]],[[100,111,103],[116,104,101]]]
def synsD:List (List GSyn):=[[],[⟨[[110,101,119],[121,111,114,107]],[110,121]⟩],[⟨[[98,105,103]],[108,97,114,103]⟩,⟨[[98,105,103],[114,101,100],[102,111,120]],[102,111,120]⟩,⟨[[110,101,119],[121,111,114,107]],[110,121]⟩]]
def ConfDrawn (c:GConf):Prop:=c.Stops∈stopsD∧c.Syns∈synsD
theorem fits_of_mem {B:Nat}{c:GConf}(h1:c.Stops.length≤B∧∀s∈c.Stops,s.length≤B)(h2:c.Syns.length≤B∧∀r∈c.Syns,r.To.length≤B∧r.From.length≤B∧∀w∈r.From,w.length≤B):ConfFit B c:=by
 constructor
 ·exact h1
 ·exact⟨h2.1,fun r hr=>⟨(h2.2 r hr).2.1,(h2.2 r hr).1,(h2.2 r hr).2.2⟩⟩
theorem stops_fit: ∀a∈stopsD,a.length≤90∧∀s∈a,s.length≤100:=by decide
theorem syns_fit: ∀a∈synsD,a.length≤90∧∀r∈a,r.To.length≤100∧r.From.length≤100∧∀w∈r.From,w.length≤100:=by decide
theorem ConfDrawn.fit {c:GConf}(h:ConfDrawn c):ConfFit 100 c:=by
 obtain⟨a1,a2⟩:=stops_fit _ h.1
 obtain⟨b1,b2⟩:=syns_fit _ h.2
 exact fits_of_mem ⟨by omega,a2⟩ ⟨by omega,b2⟩
end Go.Fk
set_option linter.unusedVariables false
namespace Go.Fk
open Go
end Go.Fk
set_option linter.unusedVariables false
namespace Go.Fk
open Go
theorem impl_docField (F:Nat)(d:GDoc)(n:Str):M.impl_DocField F d n=some (if docS d then fieldS d n else []):=by
 unfold M.impl_DocField fieldS
 rw [impl_doc,Option.bind_some]
 cases docS d
 ·rfl
 rw [cond_true,if_pos rfl,find_from (xs:=d.Fields) (fun f=>f.Name==n) (fun f=>f.Text) (fun i x hx=>?_)]
 ·cases d.Fields.find? fun f=>f.Name==n<;>rfl
 ·rw [getI_nat',hx,Option.bind_some,if_bif]
  cases x.Name==n<;>rfl
theorem field_text {d:GDoc}(h:docS d=true)(n:Str):textS (fieldS d n)=true:=by
 unfold fieldS
 cases hf:d.Fields.find? fun f=>f.Name==n with
 | none=>rfl
 | some f=>exact(doc_texts h (List.mem_of_find?_eq_some hf)).2
end Go.Fk
set_option linter.unusedVariables false
namespace Go.Fk
open Go
theorem impl_segdoc (F:Nat)(s:GSeg)(id:Int):M.impl_Seg_doc F s id=some ((s.Docs.find? fun d=>d.Id==id).elim (GDoc.mk 0 [] [],false) fun d=>(d,true)):=by
 unfold M.impl_Seg_doc
 rw [find_from (xs:=s.Docs) (fun d=>d.Id==id) (fun d=>(d,true)) (fun i x hx=>?_)]
 ·cases s.Docs.find? fun d=>d.Id==id<;>rfl
 ·rw [getI_nat',hx,Option.bind_some,if_bif]
  cases x.Id==id<;>rfl
def fieldLen (c:GConf)(docs:List GDoc)(n:Str)(id:Int):Nat:=(docs.find? fun d=>d.Id==id).elim 0 fun d=>(termsS c (fieldS d n)).length
theorem impl_fieldTerms (F:Nat){c:GConf}{d:GDoc}(hc:confS c=true)(hd:docS d=true)(n:Str)(hF:2000<F):(Option.bind (M.impl_DocField F d n) fun r=>M.impl_TermsOf F c r)=some (termsS c (fieldS d n)):=by
 have h1:=conf_stops hc
 have h2:=field_text hd n
 have h3:=text_len h2
 rw [impl_docField,hd,if_pos rfl,Option.bind_some,impl_terms F c _ (by omega) (by omega) (by omega),hc,h2];rfl
def postW (id:Int)(p:GPost):Nat:=if p.Doc==id then p.At.length else 0
def entryW (n:Str)(id:Int)(e:GEntry):Nat:=if e.Field==n then (e.Posts.map (postW id)).sum else 0
theorem foldl_sum {α:Type}(w:α→Nat): ∀(l:List α) (a:Nat),l.foldl (fun a x=>a+w x) a=a+(l.map w).sum
 | [],a=>by simp
 | x::l,a=>by rw [List.foldl_cons,foldl_sum w l,List.map_cons,List.sum_cons];omega
theorem postW_le {B:Nat}{id:Int}{p:GPost}(h:p.At.length≤B):postW id p≤B:=by unfold postW;split<;>omega
theorem sum_le {α:Type}{w:α→Nat}{B:Nat}: ∀l:List α,(∀x∈l,w x≤B)→(l.map w).sum≤l.length*B
 | [],_=>by simp
 | x::l,h=>by
  have h1:=h x (by simp)
  have h2:=sum_le l fun y hy=>h y (by simp [hy])
  rw [List.map_cons,List.sum_cons,List.length_cons,Nat.add_mul];omega
theorem entryW_le {n:Str}{id:Int}{e:GEntry}(h:e.Posts.length≤10000∧∀p∈e.Posts,p.At.length≤10000):entryW n id e≤100000000:=by
 have:=sum_le (w:=postW id) (B:=10000) e.Posts fun p hp=>postW_le (h.2 p hp)
 have h1:=h.1
 unfold entryW
 split<;>omega
theorem spec_long (F:Nat)(s:GSeg)(n:Str)(id:Int)(h:Fits 10000 s.Entries)(hF:20000<F):M.spec_l7Long F s n id=some (((s.Entries.map (entryW n id)).sum:Nat):Int):=by
 have hl:=h.1
 unfold M.spec_l7Long
 rw [(fold_while (xs:=s.Entries) (fun a e=>a+entryW n id e) (fun i (a:Nat)=>a≤i*100000000) (fun a=>(a:Int)) (fun a i=>((a:Int),i)) (s0:=((0:Int),(0:Int))) 0 rfl F (by omega) (by simp) (fun i e a hx ha=>?_) (fun a ha=>?_)).1,foldl_sum]
 ·rw [Nat.zero_add];rfl
 ·have hi:=(List.getElem?_eq_some_iff.1 hx).1
  have hp:=h.2 e (List.mem_of_getElem? hx)
  have hw:=entryW_le (n:=n) (id:=id) hp
  have hp1:=hp.1
  refine⟨?_,by omega⟩
  simp only
  rw [decide_eq_true (by omega),cond_true]
  cases hfn:e.Field==n
  ·have e0:entryW n id e=0:=by unfold entryW;rw [hfn];rfl
   obtain⟨G,rfl⟩: ∃G,F=G+1:=⟨F-1,by omega⟩
   rw [whileM]
   simp only
   rw [getI_nat',hx]
   simp only [Option.bind_some,hfn]
   have hz:(bif decide ((0:Int)<(e.Posts.length:Int)) then some false else some false)=some false:=by cases decide ((0:Int)<(e.Posts.length:Int))<;>rfl
   rw [hz]
   simp only [Option.bind_some,cond_false,Sum.elim_inr]
   rw [w64_succ' (by omega),e0];rfl
  ·rw [(fold_while (xs:=e.Posts) (fun a p=>a+postW id p) (fun j (b:Nat)=>b≤i*100000000+j*10000) (fun a=>(a:Int)) (fun a i=>((a:Int),i)) (s0:=((a:Int),(0:Int))) a rfl F (by omega) (by rw [Nat.zero_mul,Nat.add_zero];exact ha) (fun j p b hxj hb=>?_) (fun b hb=>?_)).1,foldl_sum]
   ·rw [Option.bind_some,Option.bind_some,w64_succ' (by omega)]
    have:entryW n id e=(e.Posts.map (postW id)).sum:=by unfold entryW;rw [hfn];rfl
    rw [this]
   ·have hj:=(List.getElem?_eq_some_iff.1 hxj).1
    have hpw:=postW_le (id:=id) (hp.2 p (List.mem_of_getElem? hxj))
    have hpa:=hp.2 p (List.mem_of_getElem? hxj)
    refine⟨?_,by omega⟩
    simp only
    rw [getI_nat',hx]
    simp only [Option.bind_some,hfn]
    rw [decide_eq_true (by omega),cond_true,Option.bind_some,cond_true,getI_nat',hxj,Option.bind_some,Option.bind_some,w64_succ' (by omega)]
    unfold postW
    rw [if_bif]
    cases p.Doc==id
    ·rfl
    ·rw [cond_true,cond_true,show (b:Int)+(p.At.length:Int)=((b+p.At.length:Nat):Int) by omega,w64_nat (by omega)]
   ·simp only
    rw [getI_nat',hx]
    simp only [Option.bind_some]
    rw [decide_eq_false (by omega)];rfl
 ·simp only
  rw [decide_eq_false (by omega)];rfl
theorem sum_pick {α:Type}[DecidableEq α]{w:α→Nat}{a:α}: ∀l:List α,l.Nodup→(∀x∈l,x≠a→w x=0)→(l.map w).sum=if a∈l then w a else 0
 | [],_,_=>by simp
 | x::l,hn,h=>by
  have hc:=List.nodup_cons.1 hn
  have ih:=sum_pick l hc.2 fun y hy=>h y (by simp [hy])
  rw [List.map_cons,List.sum_cons,ih]
  by_cases e:x=a
  ·subst e
   rw [if_neg hc.1,if_pos (by simp)];rfl
  ·rw [h x (by simp) e,Nat.zero_add]
   have:(a∈x::l)↔a∈l:=by rw [List.mem_cons];exact⟨fun q=>q.resolve_left fun k=>e k.symm,.inr⟩
   simp only [this]
theorem sum_add {α:Type}(v w:α→Nat): ∀l:List α,(l.map fun x=>v x+w x).sum=(l.map v).sum+(l.map w).sum
 | []=>rfl
 | x::l=>by simp only [List.map_cons,List.sum_cons,sum_add v w l];omega
theorem sum_flat {α β:Type}(f:α→List β)(w:β→Nat): ∀l:List α,((l.flatMap f).map w).sum=(l.map fun x=>((f x).map w).sum).sum
 | []=>rfl
 | x::l=>by rw [List.flatMap_cons,List.map_append,List.sum_append,sum_flat f w l];rfl
theorem sum_zero {α:Type}: ∀l:List α,(l.map fun _=>0).sum=0
 | []=>rfl
 | x::l=>by rw [List.map_cons,List.sum_cons,sum_zero l]
theorem count_sum {T:List Str}(hT:T.Nodup): ∀l:List GTerm,(∀x∈l,x.Text∈T)→(T.map fun t=>(l.flatMap fun x=>if x.Text==t then [x.At] else []).length).sum=l.length
 | [],_=>by
  exact sum_zero T
 | x::l,h=>by
  have ih:=count_sum hT l fun y hy=>h y (by simp [hy])
  have:(fun t=>((x::l).flatMap fun x=>if x.Text==t then [x.At] else []).length)=fun t=>(if x.Text==t then 1 else 0)+(l.flatMap fun x=>if x.Text==t then [x.At] else []).length:=by
   funext t
   rw [List.flatMap_cons,List.length_append,if_bif,if_bif]
   cases x.Text==t<;>rfl
  rw [this,sum_add,ih,sum_pick (a:=x.Text) T hT (fun t _ ht=>by rw [beq_eq_false_iff_ne.2 fun e=>ht e.symm];rfl),if_pos (h x (by simp)),beq_self_eq_true,List.length_cons]
  simp;omega
theorem find_gt {docs:List GDoc}{d:GDoc}{id:Int}(h: ∀e∈docs,d.Id<e.Id)(hd:d.Id=id):docs.find? (fun e=>e.Id==id)=none:=
 List.find?_eq_none.2 fun e he k=>by have:=h e he;have:=eq_of_beq k;omega
theorem posts_sum (c:GConf)(n t:Str)(id:Int): ∀docs:List GDoc,(docs.Pairwise fun a b=>a.Id<b.Id)→((docs.flatMap (docPost c n t)).map (postW id)).sum=(docs.find? fun d=>d.Id==id).elim 0 fun d=>(postS c d n t).length
 | [],_=>rfl
 | d::r,hd=>by
  have hc:=List.pairwise_cons.1 hd
  have ih:=posts_sum c n t id r hc.2
  rw [List.flatMap_cons,List.map_append,List.sum_append,ih,List.find?_cons]
  have hone:((docPost c n t d).map (postW id)).sum=if d.Id==id then (postS c d n t).length else 0:=by
   unfold docPost
   by_cases h0:0<(postS c d n t).length
   ·rw [decide_eq_true h0,if_pos rfl];simp [postW]
   ·rw [decide_eq_false h0,if_neg (by simp)]
    have:(postS c d n t).length=0:=by omega
    rw [this];simp
  rw [hone]
  cases hid:d.Id==id
  ·rw [if_neg (by simp),Nat.zero_add]
  ·rw [if_pos rfl,find_gt hc.1 (eq_of_beq hid)];rfl
theorem long_sum {c:GConf}{docs:List GDoc}(hg:DocsGood docs)(n:Str)(id:Int):((segS c docs).Entries.map (entryW n id)).sum=fieldLen c docs n id:=by
 have hnn:(namesS docs).Nodup:=(show List.Pairwise (fun a b=>strLess a b=true) (namesS docs) from names_sorted docs).imp fun {a b} k e=>by subst e;rw [sl_irrefl] at k;cases k
 have htn:(ftermsS c docs n).Nodup:=(show List.Pairwise (fun a b=>strLess a b=true) (ftermsS c docs n) from fterms_sorted c docs n).imp fun {a b} k e=>by subst e;rw [sl_irrefl] at k;cases k
 show (((namesS docs).flatMap fun n=>(ftermsS c docs n).map (entryS c docs n)).map (entryW n id)).sum=_
 rw [sum_flat,sum_pick (a:=n) _ hnn (fun m _ hm=>?_)]
 ·have hin:((ftermsS c docs n).map (entryS c docs n)).map (entryW n id)=(ftermsS c docs n).map fun t=>(docs.find? fun d=>d.Id==id).elim 0 fun d=>(postS c d n t).length:=by
   rw [List.map_map]
   refine List.map_congr_left fun t _=>?_
   show entryW n id (entryS c docs n t)=_
   unfold entryW entryS
   simp only [beq_self_eq_true,if_true]
   exact posts_sum c n t id docs hg.ids
  rw [hin]
  unfold fieldLen
  cases hf:docs.find? fun d=>d.Id==id with
  | none=>
   simp only [Option.elim_none]
   split
   ·exact sum_zero _
   ·rfl
  | some d=>
   have hdm:=List.mem_of_find?_eq_some hf
   simp only [Option.elim_some]
   by_cases hm:n∈namesS docs
   ·rw [if_pos hm]
    exact count_sum htn _ fun x hx=>mem_fterms.2 ⟨d,hdm,x,hx,rfl⟩
   ·rw [if_neg hm]
    have:fieldS d n=[]:=by
     unfold fieldS
     cases hff:d.Fields.find? fun f=>f.Name==n with
     | none=>rfl
     | some f=>exact absurd (mem_names.2 ⟨d,hdm,f,List.mem_of_find?_eq_some hff,eq_of_beq (List.find?_some (p:=fun f:GField=>f.Name==n) hff)⟩) hm
    rw [this,terms_nil];rfl
 ·have:((ftermsS c docs m).map (entryS c docs m)).map (entryW n id)=(ftermsS c docs m).map fun _=>0:=by
   rw [List.map_map]
   refine List.map_congr_left fun t _=>?_
   show entryW n id (entryS c docs m t)=0
   unfold entryW
   have:((entryS c docs m t).Field==n)=false:=beq_eq_false_iff_ne.2 hm
   rw [this];rfl
  rw [this]
  exact sum_zero _
end Go.Fk
set_option linter.unusedVariables false
namespace Go.Fk
open Go
theorem entry_in {c:GConf}{docs:List GDoc}{n t:Str}:entryS c docs n t∈(segS c docs).Entries↔n∈namesS docs∧t∈ftermsS c docs n:=by
 unfold segS
 constructor
 ·intro h
  obtain⟨m,hm,h⟩:=List.mem_flatMap.1 h
  obtain⟨u,hu,e⟩:=List.mem_map.1 h
  have e1:m=n:=congrArg GEntry.Field e
  have e2:u=t:=congrArg GEntry.Term e
  subst e1;subst e2
  exact⟨hm,hu⟩
 ·rintro⟨h1,h2⟩
  exact List.mem_flatMap.2 ⟨n,h1,List.mem_map.2 ⟨t,h2,rfl⟩⟩
theorem mem_seg {c:GConf}{docs:List GDoc}{e:GEntry}(h:e∈(segS c docs).Entries):e=entryS c docs e.Field e.Term:=by
 unfold segS at h
 obtain⟨m,hm,h⟩:=List.mem_flatMap.1 h
 obtain⟨u,hu,rfl⟩:=List.mem_map.1 h
 rfl
theorem term_in {c:GConf}{docs:List GDoc}{d:GDoc}{n:Str}{x:GTerm}(hd:d∈docs)(hx:x∈termsS c (fieldS d n)):n∈namesS docs∧x.Text∈ftermsS c docs n:=by
 refine⟨?_,mem_fterms.2 ⟨d,hd,x,hx,rfl⟩⟩
 unfold fieldS at hx
 cases hf:d.Fields.find? fun f=>f.Name==n with
 | none=>rw [hf,Option.elim_none,terms_nil] at hx;cases hx
 | some f=>exact mem_names.2 ⟨d,hd,f,List.mem_of_find?_eq_some hf,eq_of_beq (List.find?_some (p:=fun f:GField=>f.Name==n) hf)⟩
def postsAt (s:GSeg)(n t:Str):List GPost:=(s.Entries.find? (keyP n t)).elim [] (·.Posts)
theorem impl_findPosts (F:Nat)(s:GSeg)(n t:Str):M.impl_Seg_posts F s n t=some (postsAt s n t):=by
 unfold M.impl_Seg_posts postsAt
 rw [find_from (xs:=s.Entries) (keyP n t) (fun e=>e.Posts) (fun i x hx=>?_)]
 ·cases s.Entries.find? (keyP n t)<;>rfl
 ·rw [getI_nat',hx,Option.bind_some]
  unfold keyP
  rw [if_bif]
  cases x.Field==n
  ·rfl
  ·cases x.Term==t<;>rfl
theorem postsAt_seg (c:GConf)(docs:List GDoc)(n t:Str):postsAt (segS c docs) n t=docs.flatMap (docPost c n t):=by
 unfold postsAt
 cases hf:(segS c docs).Entries.find? (keyP n t) with
 | some e=>
  have hm:=List.mem_of_find?_eq_some hf
  have hk:=List.find?_some (p:=keyP n t) hf
  unfold keyP at hk
  rw [Bool.and_eq_true] at hk
  have e1:=eq_of_beq hk.1
  have e2:=eq_of_beq hk.2
  have:=mem_seg hm
  rw [this,e1,e2];rfl
 | none=>
  have hno: ∀d∈docs,docPost c n t d=[]:=fun d hd=>by
   cases hp:docPost c n t d with
   | nil=>rfl
   | cons p ps=>
    unfold docPost at hp
    split at hp
    ·rename_i h0
     have h0:=of_decide_eq_true h0
     obtain⟨a,ha⟩:=List.exists_mem_of_length_pos h0
     unfold postS at ha
     obtain⟨x,hx,hxa⟩:=List.mem_flatMap.1 ha
     have ht:x.Text=t:=by
      split at hxa
      ·rename_i k;exact eq_of_beq k
      ·cases hxa
     obtain⟨k1,k2⟩:=term_in (c:=c) hd hx
     rw [ht] at k2
     have:=List.find?_eq_none.1 hf _ (entry_in.2 ⟨k1,k2⟩)
     exact absurd (show keyP n t (entryS c docs n t)=true by unfold keyP entryS;simp) this
    ·cases hp
  show []=_
  rw [List.flatMap_eq_nil_iff.2 hno]
end Go.Fk
set_option linter.unusedVariables false
namespace Go.Fk
open Go
theorem spec_findPosts (F:Nat)(s:GSeg)(n t:Str)(hl:s.Entries.length≤10000)(hF:20000<F):M.spec_l7Posts F s n t=some (postsAt s n t):=by
 unfold M.spec_l7Posts postsAt
 rw [find_while (xs:=s.Entries) (keyP n t) (fun e=>(Sum.inr e.Posts:Unit⊕List GPost)) (e:=Sum.inl ()) F (by omega) (fun i x hx=>?_) ?_]
 ·cases s.Entries.find? (keyP n t)<;>rfl
 ·rw [decide_eq_false (by omega)];rfl
 ·have hi:=(List.getElem?_eq_some_iff.1 hx).1
  rw [decide_eq_true (by omega),cond_true,getI_nat',hx,Option.bind_some,Option.bind_some,Option.bind_some,w64_succ' (by omega)]
  unfold keyP
  rw [if_bif]
  cases x.Field==n
  ·rfl
  ·cases x.Term==t<;>rfl
theorem postsAt_fits {c:GConf}{s:GSeg}(ho:segOk c s=true)(n t:Str):(postsAt s n t).length≤10000∧∀p∈postsAt s n t,p.At.length≤10000:=by
 obtain⟨h1,h2,h3⟩:=seg_is ho
 have hfit:Fits 10000 s.Entries:=by rw [h3];exact(seg_fits h2).le (by omega)
 unfold postsAt
 cases hf:s.Entries.find? (keyP n t) with
 | none=>exact⟨Nat.zero_le _,fun p hp=>by cases hp⟩
 | some e=>exact hfit.2 e (List.mem_of_find?_eq_some hf)
end Go.Fk
