/-
  Fractions: the program's and the reference's greatest common divisors, lowest terms, and so many times a fraction.
-/
import Derived.Test.YtpdfkjjmcnhakaaGreatDoorLawBase
set_option linter.unusedVariables false
set_option maxRecDepth 100000
namespace Go.Fk
open Go
theorem b6I (m n:Nat):((m:Int)).tmod (n:Int)=((m%n:Nat):Int):=by rw [←Int.ofNat_tmod]
theorem a6m (m n:Nat):((m:Int)).tdiv (n:Int)=((m/n:Nat):Int):=by rw [←Int.ofNat_tdiv]
theorem b4s {f:Int×Int→Option ((Int×Int)⊕Int)}(hf:f=fun (s11:Int×Int)=>(cond (!(s11.2==(0:Int))) (Option.bind (a5x s11.1 s11.2) fun x26=>(some (.inl (s11.2,x26)))) (some (.inr s11.1)))): ∀(n m F:Nat),n<F→u0 f F ((m:Int),(n:Int))=some ((Nat.gcd m n:Nat):Int):=by
 intro n
 induction n using Nat.strongRecOn with
 | _ n ih=>
  intro m F hF
  obtain⟨F,rfl⟩: ∃G,F=G+1:=⟨F-1,by omega⟩
  rw [u0]
  by_cases h:n=0
  ·subst h
   rw [hf];simp
  ·have h1:f ((m:Int),(n:Int))=some (.inl ((n:Int),((m%n:Nat):Int))):=by
    rw [hf]
    dsimp only
    rw [beq_eq_false_iff_ne.2 (by omega),Bool.not_false,j6]
    unfold a5x
    rw [if_neg (by omega),a8,b6I]
   have hlt:m%n<n:=Nat.mod_lt _ (by omega)
   rw [h1]
   show u0 f F _=_
   rw [ih (m%n) hlt n F (by omega),Nat.gcd_comm n,←Nat.gcd_rec,Nat.gcd_comm]
theorem b1v (F:Nat)(m n:Nat)(hm:m≤1000000000000)(hn:n≤1000000000000)(hF:n<F):S1 F (m:Int) (n:Int)=some ((Nat.gcd m n:Nat):Int):=by
 unfold S1
 rw [b4s rfl n m F hF,a8,a8]
 have hg:Nat.gcd m n≤1000000000000:=by
  by_cases h:m=0
  ·subst h;rw [Nat.gcd_zero_left];exact hn
  ·exact Nat.le_trans (Nat.gcd_le_left n (by omega)) hm
 rw [B9 ⟨by omega,by omega⟩,if_neg (by omega)]
def b2O (a b:Nat):Int:=((a/Nat.gcd a b:Nat):Int)
def b2N (a b:Nat):Int:=((b/Nat.gcd a b:Nat):Int)
theorem b3z {a b:Nat}(hb:0<b):1≤b/Nat.gcd a b:=Nat.div_pos (Nat.gcd_le_right a hb) (Nat.gcd_pos_of_pos_right a hb)
theorem b7n {a b:Nat}(hb:0<b):Nat.gcd (a/Nat.gcd a b) (b/Nat.gcd a b)=1:=Nat.gcd_div_gcd_div_gcd_of_pos_right hb
theorem a63 (F a b:Nat)(ha:a≤1000000000)(hb:0<b∧b≤1000000000)(hF:1000000000<F):a0a F ⟨b2O a b,b2N a b⟩=some true:=by
 have h1:a/Nat.gcd a b≤a:=Nat.div_le_self _ _
 have h2:b/Nat.gcd a b≤b:=Nat.div_le_self _ _
 have h3:=b3z (a:=a) hb.1
 have h5:=b7n (a:=a) hb.1
 unfold a0a b2O b2N
 dsimp only
 generalize a/Nat.gcd a b=x at *
 generalize b/Nat.gcd a b=y at *
 rw [F9,b8 (by omega),b8 (by omega),a8,n8,j6,F9,b8 (by omega),b8 (by omega),a8,n8,j6,b1v F _ _ (by omega) (by omega) (by omega),a8,h5];rfl
theorem b7y (F a b:Nat)(ha:a≤1000000000)(hb:0<b∧b≤1000000000)(hF:1000000000<F):a0X F (a:Int) (b:Int)=some (⟨b2O a b,b2N a b⟩,true):=by
 have h1:a/Nat.gcd a b≤a:=Nat.div_le_self _ _
 have h2:b/Nat.gcd a b≤b:=Nat.div_le_self _ _
 have hg:=Nat.gcd_pos_of_pos_right a hb.1
 unfold a0X a1D
 rw [F9,b8 (by omega),b8 (by omega),a8,n8,n5,i9,F9,b8 (by omega),b8 (by omega),a8,n8,n5,i9,a8,beq_eq_false_iff_ne.2 (by omega),i9,c6 (by omega),i9,a8]
 dsimp only
 rw [b1v F a b (by omega) (by omega) (by omega),a8]
 unfold a2w
 rw [if_neg (by omega),a8,if_neg (by omega),a8,a6m,a6m]
 have:=a63 F a b ha hb hF
 unfold b2O b2N at this ⊢
 generalize a/Nat.gcd a b=x at *
 generalize b/Nat.gcd a b=y at *
 rw [B9 ⟨by omega,by omega⟩,B9 ⟨by omega,by omega⟩,this];rfl
def a9S (a b:Nat):Nat:=a/Nat.gcd a b*1000/(b/Nat.gcd a b)
theorem b2H (F a b:Nat)(ha:a≤1000000000)(hb:0<b∧b≤1000000000)(hF:1000000000<F):V0 F ⟨b2O a b,b2N a b⟩ 1000=some ((a9S a b:Nat):Int):=by
 have h1:a/Nat.gcd a b≤a:=Nat.div_le_self _ _
 have h3:=b3z (a:=a) hb.1
 have h4:a/Nat.gcd a b*1000/(b/Nat.gcd a b)≤a/Nat.gcd a b*1000:=Nat.div_le_self _ _
 unfold V0
 rw [a63 F a b ha hb hF,a8,n5,i9,F9,a8,a8]
 unfold b2O b2N a9S
 dsimp only
 generalize a/Nat.gcd a b=x at *
 generalize b/Nat.gcd a b=y at *
 have e:(x:Int)*1000=((x*1000:Nat):Int):=by push_cast;rfl
 rw [e,B9 ⟨by omega,by omega⟩]
 rw [b8 (show (1:Int)≤1000 by omega),b8 (show (1000:Int)≤1000 by omega),n8,n5,i9,b8 (by omega),j6]
 unfold a2w
 generalize hz:x*1000/y=z at *
 rw [if_neg (by omega),a8,a6m,hz,B9 ⟨by omega,by omega⟩]
def a5h:Nat→Nat→Nat→Nat
 | 0,_,_=>0
 | k+1,df,docs=>if 2*df≤docs then a5h k (2*df) docs+1 else 0
theorem a8O: ∀k df docs,a5h k df docs≤k
 | 0,_,_=>Nat.le_refl _
 | k+1,df,docs=>by
  have:=a8O k (2*df) docs
  unfold a5h
  split<;>omega
theorem b0T (df n:Nat)(hn:n≤20)(hdf:df≤16):b40 (df:Int) (y8 ((n:Int)+1))=some ((df*2 ^ n*2:Nat):Int):=by
 have hp:2 ^ n≤2 ^ 20:=Nat.pow_le_pow_right (by omega) hn
 have hq:df*2 ^ n≤16*2 ^ 20:=Nat.mul_le_mul hdf hp
 rw [u4 (by omega)]
 unfold b40
 rw [if_neg (by omega),Int.toNat_natCast,Nat.min_eq_left (by omega),Int.pow_succ,←Int.mul_assoc]
 have e:(df:Int)*2 ^ n*2=((df*2 ^ n*2:Nat):Int):=by push_cast;rfl
 rw [e,B9 ⟨by omega,by omega⟩]
theorem a5Y {f:Int→Option (Int⊕Int)}(df docs:Nat)(hd:docs≤16)(hdf:df≤16)(hf:f=fun (s75:Int)=>(Option.bind (b40 (df:Int) (y8 (s75+(1:Int)))) fun x87=>(cond (decide (x87≤(docs:Int))) (some (.inl (y8 (s75+(1:Int))))) (some (.inr s75))))):
  ∀(k n F:Nat),docs<df*2 ^ n*2 ^ k→k<F→n+k≤10→u0 f F (n:Int)=some ((n+a5h k (df*2 ^ n) docs:Nat):Int)
 | 0,n,F,hk,hF,hn=>by
  obtain⟨F,rfl⟩: ∃G,F=G+1:=⟨F-1,by omega⟩
  rw [Nat.pow_zero,Nat.mul_one] at hk
  have h1:f (n:Int)=some (.inr (n:Int)):=by
   rw [hf]
   dsimp only
   rw [b0T df n (by omega) hdf,a8,c6 (by omega)];rfl
  rw [u0,h1];rfl
 | k+1,n,F,hk,hF,hn=>by
  obtain⟨F,rfl⟩: ∃G,F=G+1:=⟨F-1,by omega⟩
  rw [u0]
  by_cases h:2*(df*2 ^ n)≤docs
  ·have h1:f (n:Int)=some (.inl ((n+1:Nat):Int)):=by
    rw [hf]
    dsimp only
    rw [b0T df n (by omega) hdf,a8,b8 (by omega),u4 (by omega)];rfl
   have e:df*2 ^ (n+1)=2*(df*2 ^ n):=by rw [Nat.pow_succ,←Nat.mul_assoc,Nat.mul_comm 2]
   rw [h1]
   show u0 f F _=_
   rw [a5Y df docs hd hdf hf k (n+1) F (by rw [e,Nat.mul_comm 2,Nat.mul_assoc,←Nat.pow_succ'];exact hk) (by omega) (by omega),e]
   rw [a5h,if_pos h]
   congr 1;omega
  ·have h1:f (n:Int)=some (.inr (n:Int)):=by
    rw [hf]
    dsimp only
    rw [b0T df n (by omega) hdf,a8,c6 (by omega)];rfl
   rw [h1,a5h,if_neg h];rfl
def upN (tf docs df:Nat):Nat:=22*tf*(a5h 5 df docs+1)
def a47 (tf long total docs:Nat):Nat:=10*tf+3+9*long*docs/total
structure a17 (tf long total docs df:Nat):Prop where
 h1:1≤tf∧tf≤80
 h2:tf≤long∧long≤80
 h3:long≤total∧total≤1280
 h4:1≤docs∧docs≤16
 h5:1≤df∧df≤docs
theorem b6J {tf long total docs df:Nat}(h:a17 tf long total docs df):upN tf docs df≤1000000:=by
 have h1:=a8O 5 df docs
 have h2:=h.h1
 unfold upN
 calc 22*tf*(a5h 5 df docs+1)≤22*80*6:=Nat.mul_le_mul (by omega) (by omega)
  _≤1000000:=by decide
theorem b0i {tf long total docs df:Nat}(h:a17 tf long total docs df):0<a47 tf long total docs∧a47 tf long total docs≤1000000:=by
 have h2:=h.h1
 have h3:9*long*docs/total≤9*long*docs:=Nat.div_le_self _ _
 have h4:9*long*docs≤9*80*16:=Nat.mul_le_mul (by have:=h.h2;omega) (by have:=h.h4;omega)
 unfold a47
 generalize 9*long*docs/total=q at *
 omega
theorem a6o {a b:Nat}(h:a*b≤1000000000000000):y8 ((a:Int)*(b:Int))=((a*b:Nat):Int):=by
 have e:(a:Int)*(b:Int)=((a*b:Nat):Int):=by push_cast;rfl
 rw [e,b00 (by omega)]
theorem b01 {a b:Nat}(h:a+b≤1000000000000000):y8 ((a:Int)+(b:Int))=((a+b:Nat):Int):=by
 have e:(a:Int)+(b:Int)=((a+b:Nat):Int):=by push_cast;rfl
 rw [e,b00 (by omega)]
theorem b7x {a b:Nat}(hb:0<b)(h:a≤1000000000000000):a2w (a:Int) (b:Int)=some ((a/b:Nat):Int):=by
 have:a/b≤a:=Nat.div_le_self _ _
 unfold a2w
 rw [if_neg (by omega),a6m,b00 (by omega)]
theorem b4F (F tf long total docs df:Nat)(h:a17 tf long total docs df)(hF:1000000000<F):R8 F (tf:Int) (long:Int) (total:Int) (docs:Int) (df:Int)=some (⟨b2O (upN tf docs df) (a47 tf long total docs),b2N (upN tf docs df) (a47 tf long total docs)⟩,true):=by
 obtain⟨⟨a1,a2⟩,⟨b1,b2⟩,⟨c1,c2⟩,⟨d1,d2⟩,⟨e1,e2⟩⟩:=h
 have hh:a17 tf long total docs df:=⟨⟨a1,a2⟩,⟨b1,b2⟩,⟨c1,c2⟩,⟨d1,d2⟩,⟨e1,e2⟩⟩
 have hu:=b6J hh
 have hd:=b0i hh
 have hr:=a8O 5 df docs
 unfold R8
 simp only [F9,a8]
 rw [b8 (show (1:Int)≤(tf:Int) by omega),b8 (show (tf:Int)≤80 by omega),b8 (show (tf:Int)≤(long:Int) by omega),b8 (show (long:Int)≤80 by omega),b8 (show (1:Int)≤(docs:Int) by omega),b8 (show (docs:Int)≤16 by omega),b8 (show (1:Int)≤(df:Int) by omega),b8 (show (df:Int)≤(docs:Int) by omega),b8 (show (long:Int)≤(total:Int) by omega),b8 (show (total:Int)≤1280 by omega)]
 simp only [n8,n5,i9,a8]
 have hrare:=a5Y df docs d2 (by omega) rfl 5 0 F (by simp;omega) (by omega) (by omega)
 rw [Nat.zero_add,Nat.pow_zero,Nat.mul_one] at hrare
 rw [show ((0:Int))=((0:Nat):Int) from rfl,hrare,a8]
 have hm4:9*long*docs≤9*80*16:=Nat.mul_le_mul (by omega) (by omega)
 have hq:9*long*docs/total≤9*long*docs:=Nat.div_le_self _ _
 have k1:y8 ((y8 ((9:Int)*(long:Int)))*(docs:Int))=((9*long*docs:Nat):Int):=by
  rw [show y8 ((9:Int)*(long:Int))=((9*long:Nat):Int) from a6o (a:=9) (by omega),a6o (by omega)]
 have hu2:22*tf*(a5h 5 df docs+1)≤1000000:=hu
 have k2:y8 ((y8 ((22:Int)*(tf:Int)))*(y8 (((a5h 5 df docs:Nat):Int)+1)))=((upN tf docs df:Nat):Int):=by
  rw [show y8 ((22:Int)*(tf:Int))=((22*tf:Nat):Int) from a6o (a:=22) (by omega),u4 (by omega),a6o (by omega)];rfl
 have k3:y8 ((y8 ((y8 ((10:Int)*(tf:Int)))+(3:Int)))+((9*long*docs/total:Nat):Int))=((a47 tf long total docs:Nat):Int):=by
  rw [show y8 ((10:Int)*(tf:Int))=((10*tf:Nat):Int) from a6o (a:=10) (by omega),show y8 (((10*tf:Nat):Int)+3)=((10*tf+3:Nat):Int) from b01 (b:=3) (by omega),b01 (by omega)];rfl
 rw [k1,b7x (by omega) (by omega),a8,a8,k2,k3,b7y F _ _ (by omega) ⟨hd.1,by omega⟩ hF];rfl
def b2Z (tf long total docs df:Nat):Nat:=a9S (upN tf docs df) (a47 tf long total docs)
end Go.Fk
