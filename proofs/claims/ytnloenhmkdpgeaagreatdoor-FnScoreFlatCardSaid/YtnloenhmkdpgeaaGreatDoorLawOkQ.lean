/-
  Which questions are ok, of all of them. Of no program.
-/
import Derived.Test.YtnloenhmkdpgeaaGreatDoorLawQs
set_option linter.unusedVariables false
namespace Go.Fk
open Go
def u1 (x a b:Int):Bool:=decide (a≤x)&&decide (x≤b)
def a7R (k:Int)(w:r4):Bool:=if k==5 then a8c w&& !D0 w else D0 w
def c12 (has:Bool)(g:N3)(q:q7):Bool:=
 (has&&((g.field_== !(q.Field==[]))&&(!g.field_||D0 q.Field)))&&((u1 q.Words.length g.leastWords_ g.mostWords_&&(u1 q.Kids.length g.leastKids_ g.mostKids_&&u1 q.From g.low_ g.high_))&&((if g.ranged_ then u1 q.To q.From 999999999 else q.To==0)&&q.Words.all (a7R q.Kind)))
def b19 (q:q7):Bool:=c12 (M1 q.Kind) (A7 q.Kind) q
def okQ:Nat→q7→Bool
 | 0,_=>false
 | d+1,q=>b19 q&&q.Kids.all (okQ d)
theorem b3A: ∀(d F:Nat) (q:q7),d<F→d≤1000→J0 F q (d:Int)=some (okQ d q)
 | 0,0,_,h,_=>by omega
 | 0,F+1,q,_,_=>by
  rw [J0]
  dsimp only
  rw [b8 (show ((0:Nat):Int)<1 by omega)]
  cases M1 q.Kind<;>rfl
 | d+1,0,_,h,_=>by omega
 | d+1,F+1,q,h,h2=>by
  rw [J0]
  dsimp only
  rw [c6 (show ¬((d+1:Nat):Int)<1 by omega),i6]
  show _=some (c12 (M1 q.Kind) (A7 q.Kind) q&&q.Kids.all (okQ d))
  generalize M1 q.Kind=hb
  generalize A7 q.Kind=g
  unfold c12
  have e1:(cond (!hb) (some true) (cond (!(g.field_==(!(q.Field==[])))) (some true) (cond g.field_ ((H1 F q.Field).bind fun r50=>(some (!r50))) (some false))))=some (!(hb&&((g.field_== !(q.Field==[]))&&(!g.field_||D0 q.Field)))):=by
   rw [O0]
   cases hb
   ·rfl
   ·cases hx:(g.field_== !(q.Field==[]))
    ·rfl
    ·cases g.field_
     ·rfl
     ·cases D0 q.Field<;>rfl
  rw [e1,a8]
  cases hb&&((g.field_== !(q.Field==[]))&&(!g.field_||D0 q.Field)) with
  | false=>rfl
  | true=>
  rw [l7,i6,u5]
  have e2:((B3 F (q.Words.length:Int) (g.leastWords_) (g.mostWords_)).bind fun r70=>(cond (!r70) (some true) ((B3 F (q.Kids.length:Int) (g.leastKids_) (g.mostKids_)).bind fun r80=>(cond (!r80) (some true) ((B3 F q.From (g.low_) (g.high_)).bind fun r90=>(some (!r90)))))))=some (!(u1 q.Words.length g.leastWords_ g.mostWords_&&(u1 q.Kids.length g.leastKids_ g.mostKids_&&u1 q.From g.low_ g.high_))):=by
   rw [O8,a8,O8,a8,O8,a8]
   show cond (!u1 q.Words.length g.leastWords_ g.mostWords_) _ (cond (!u1 q.Kids.length g.leastKids_ g.mostKids_) _ (some (!u1 q.From g.low_ g.high_)))=_
   cases u1 q.Words.length g.leastWords_ g.mostWords_
   ·rfl
   ·cases u1 q.Kids.length g.leastKids_ g.mostKids_<;>rfl
  rw [e2,a8]
  cases u1 q.Words.length g.leastWords_ g.mostWords_&&(u1 q.Kids.length g.leastKids_ g.mostKids_&&u1 q.From g.low_ g.high_) with
  | false=>rfl
  | true=>
  rw [l7,i6,u5]
  have e3:(cond g.ranged_ ((B3 F q.To q.From 999999999).bind fun r110=>(cond (!r110) (some true) (cond (!g.ranged_) (some (!(q.To==0))) (some false)))) (cond (!g.ranged_) (some (!(q.To==0))) (some false)))=some (!(if g.ranged_ then u1 q.To q.From 999999999 else q.To==0)):=by
   rw [O8,a8]
   show cond g.ranged_ (cond (!u1 q.To q.From 999999999) _ _) _=_
   cases g.ranged_
   ·rfl
   ·cases u1 q.To q.From 999999999<;>rfl
  rw [e3,a8]
  cases (if g.ranged_ then u1 q.To q.From 999999999 else q.To==0) with
  | false=>rfl
  | true=>
  rw [l7,i6,u5,b1b (p:=a7R q.Kind) (xs:=q.Words) (e:=false) (fun i x hx=>?_) q.Words.length 0 (by omega),List.drop_zero]
  ·cases q.Words.all (a7R q.Kind) with
   | false=>rfl
   | true=>
    rw [if_pos rfl,a8,u5]
    show (((D1 _ _ 0 ()).bind _).bind _)=_
    rw [b1b (p:=okQ d) (xs:=q.Kids) (e:=false) (fun i x hx=>?_) q.Kids.length 0 (by omega),List.drop_zero]
    ·cases q.Kids.all (okQ d)<;>rfl
    ·rw [n8,hx,a8,show z8 (((d+1:Nat):Int)-1)=(d:Int) from by rw [C5 ⟨by omega,by omega⟩];omega,b3A d F x (by omega) (by omega),a8]
     cases okQ d x<;>rfl
  ·rw [n8,hx,a8,O0,a8g]
   unfold a7R
   cases q.Kind==5
   ·cases D0 x<;>rfl
   ·cases a8c x
    ·rfl
    ·cases D0 x<;>rfl
theorem b6S (F:Nat)(q:q7)(hF:10<F):N4 F q=some (okQ 4 q):=by
 unfold N4
 have:=b3A 4 F q (by omega) (by omega)
 rw [show ((4:Nat):Int)=4 from rfl] at this
 rw [this];rfl
def a7Y:Nat→q7→Prop
 | 0,_=>True
 | d+1,q=>q.Field.length≤1000∧q.Words.length≤100∧(∀w∈q.Words,w.length≤1000)∧q.Kids.length≤100∧∀k∈q.Kids,a7Y d k
theorem b8U (F:Nat)(ws:List r4)(most:Int)(hw: ∀w∈ws,w.length≤1000)(hl:ws.length≤100)(hF:3000<F):R6 F ws most=some (ws.all D0&&u1 ws.length 1 most):=by
 unfold R6
 rw [a1R D0 (xs:=ws) F (by omega) (fun i x hx=>?_) ?_]
 ·cases ws.all D0 with
  | false=>rfl
  | true=>
   rw [if_pos rfl,a8,u5]
   show (((some (Sum.inl ()):Option (Unit⊕Bool))).bind fun o6=>o6.elim (fun s9=>((G0 F (ws.length:Int) 1 most).bind fun r52=>(some r52))) (fun t60=>(some t60)))=_
   rw [a8,Sum.elim_inl,inS];rfl
 ·rw [c6 (by omega)];rfl
 ·have hi:=(i4.1 hx).1
  have hwx:=hw x (n5 hx)
  rw [b8 (by omega),j4,n8,hx,a8,a0x F x 1000 hwx (by omega) (by omega),a8,y5 (by omega)]
  cases D0 x<;>rfl
theorem a7B (a b:Bool):cond a (some b) (some false)=some (a&&b):=by cases a<;>rfl
theorem a48 (F:Nat)(q:q7)(a b c d:Bool):F2 F q a b c d=some ((a||q.Field==[])&&((b||(q.Words.length:Int)==0)&&((c||((q.From==0)&&(q.To==0)))&&(d||(q.Kids.length:Int)==0)))):=by
 unfold F2
 cases a<;>cases b<;>cases c<;>cases d<;>simp only [a7B,Bool.true_or,Bool.false_or,u5,Bool.and_true,Bool.and_assoc,j4,i6]<;>first | rfl | (cases (q.Field==([]:r4))<;>first | rfl | (cases ((q.Words.length:Int)==0)<;>first | rfl | (cases (q.From==0)<;>first | rfl | (cases (q.To==0)<;>rfl))))
def b49 (k:Int)(wf fe W:Bool)(n m a b:Int):Bool:=
 let g:=A7 k
 (M1 k&&((g.field_== !fe)&&(!g.field_||wf)))&&((u1 n g.leastWords_ g.mostWords_&&(u1 m g.leastKids_ g.mostKids_&&u1 a g.low_ g.high_))&&((if g.ranged_ then u1 b a 999999999 else b==0)&&W))
def a1v (fe:Bool)(n m a b:Int)(p q r t:Bool):Bool:=(p||fe)&&((q||n==0)&&((r||((a==0)&&(b==0)))&&(t||m==0)))
def b9G (k:Int)(wf fe W:Bool)(n m a b:Int):Bool:=
 if k=1 then a1v fe n m a b false false false false
 else if k=2 then a1v fe n m a b true true false false&&(wf&&(W&&u1 n 1 1))
 else if k=3 then a1v fe n m a b true true true false&&(wf&&((W&&u1 n 1 4)&&(decide (1<n)&&((b==0)&&u1 a 0 5))))
 else if k=4 then a1v fe n m a b true true true false&&(wf&&((W&&u1 n 1 1)&&((b==0)&&u1 a 1 2)))
 else if k=6 then a1v fe n m a b true false true false&&(wf&&(u1 a 0 999999999&&u1 b a 999999999))
 else if k=7∨k=8 then a1v fe n m a b false false false true&&u1 m 2 4
 else if k=9 then a1v fe n m a b false false false true&&(m==2)
 else if k=10 then a1v fe n m a b false false true true&&((m==1)&&((b==0)&&u1 a 2 9))
 else false
theorem c3b {k:Int}(k1:k≠1)(k2:k≠2)(k3:k≠3)(k4:k≠4)(k5:k≠5)(k6:k≠6)(k7:k≠7)(k8:k≠8)(k9:k≠9)(k10:k≠10):M1 k=false:=by
 unfold M1 a5C
 rw [List.find?_eq_none.2 fun p hp=>?_]
 ·rfl
 ·unfold G8 at hp
  simp only [List.mem_cons,List.not_mem_nil,or_false] at hp
  have h:p.1≠k:=by
   rcases hp with rfl | rfl | rfl | rfl | rfl | rfl | rfl | rfl | rfl | rfl
   ·exact Ne.symm k1
   ·exact Ne.symm k2
   ·exact Ne.symm k3
   ·exact Ne.symm k4
   ·exact Ne.symm k5
   ·exact Ne.symm k6
   ·exact Ne.symm k7
   ·exact Ne.symm k8
   ·exact Ne.symm k9
   ·exact Ne.symm k10
  rw [beq_eq_false_iff_ne.2 h]
  decide
theorem b5a {k:Int}(h5:k≠5){wf fe W:Bool}{n m a b:Int}(hn:0≤n)(hm:0≤m)(h1:wf=true→fe=false)(h2:n=0→W=true):b49 k wf fe W n m a b=b9G k wf fe W n m a b:=by
 by_cases k1:k=1
 ·subst k1
  show ((true&&((false== !fe)&&(!false||wf)))&&((u1 n 0 0&&(u1 m 0 0&&u1 a 0 0))&&((b==0)&&W)))=(a1v fe n m a b false false false false)
  unfold u1 a1v
  rw [Bool.eq_iff_iff]
  cases wf<;>cases fe<;>cases W<;>simp at h1 h2 ⊢ <;>omega
 by_cases k2:k=2
 ·subst k2
  show ((true&&((true== !fe)&&(!true||wf)))&&((u1 n 1 1&&(u1 m 0 0&&u1 a 0 0))&&((b==0)&&W)))=(a1v fe n m a b true true false false&&(wf&&(W&&u1 n 1 1)))
  unfold u1 a1v
  rw [Bool.eq_iff_iff]
  cases wf<;>cases fe<;>cases W<;>simp at h1 h2 ⊢ <;>omega
 by_cases k3:k=3
 ·subst k3
  show ((true&&((true== !fe)&&(!true||wf)))&&((u1 n 2 4&&(u1 m 0 0&&u1 a 0 5))&&((b==0)&&W)))=(a1v fe n m a b true true true false&&(wf&&((W&&u1 n 1 4)&&(decide (1<n)&&((b==0)&&u1 a 0 5)))))
  unfold u1 a1v
  rw [Bool.eq_iff_iff]
  cases wf<;>cases fe<;>cases W<;>simp at h1 h2 ⊢ <;>omega
 by_cases k4:k=4
 ·subst k4
  show ((true&&((true== !fe)&&(!true||wf)))&&((u1 n 1 1&&(u1 m 0 0&&u1 a 1 2))&&((b==0)&&W)))=(a1v fe n m a b true true true false&&(wf&&((W&&u1 n 1 1)&&((b==0)&&u1 a 1 2))))
  unfold u1 a1v
  rw [Bool.eq_iff_iff]
  cases wf<;>cases fe<;>cases W<;>simp at h1 h2 ⊢ <;>omega
 by_cases k6:k=6
 ·subst k6
  show ((true&&((true== !fe)&&(!true||wf)))&&((u1 n 0 0&&(u1 m 0 0&&u1 a 0 999999999))&&((u1 b a 999999999)&&W)))=(a1v fe n m a b true false true false&&(wf&&(u1 a 0 999999999&&u1 b a 999999999)))
  unfold u1 a1v
  rw [Bool.eq_iff_iff]
  cases wf<;>cases fe<;>cases W<;>simp at h1 h2 ⊢ <;>omega
 by_cases k7:k=7
 ·subst k7
  show ((true&&((false== !fe)&&(!false||wf)))&&((u1 n 0 0&&(u1 m 2 4&&u1 a 0 0))&&((b==0)&&W)))=(a1v fe n m a b false false false true&&u1 m 2 4)
  unfold u1 a1v
  rw [Bool.eq_iff_iff]
  cases wf<;>cases fe<;>cases W<;>simp at h1 h2 ⊢ <;>omega
 by_cases k8:k=8
 ·subst k8
  show ((true&&((false== !fe)&&(!false||wf)))&&((u1 n 0 0&&(u1 m 2 4&&u1 a 0 0))&&((b==0)&&W)))=(a1v fe n m a b false false false true&&u1 m 2 4)
  unfold u1 a1v
  rw [Bool.eq_iff_iff]
  cases wf<;>cases fe<;>cases W<;>simp at h1 h2 ⊢ <;>omega
 by_cases k9:k=9
 ·subst k9
  show ((true&&((false== !fe)&&(!false||wf)))&&((u1 n 0 0&&(u1 m 2 2&&u1 a 0 0))&&((b==0)&&W)))=(a1v fe n m a b false false false true&&(m==2))
  unfold u1 a1v
  rw [Bool.eq_iff_iff]
  cases wf<;>cases fe<;>cases W<;>simp at h1 h2 ⊢ <;>omega
 by_cases k10:k=10
 ·subst k10
  show ((true&&((false== !fe)&&(!false||wf)))&&((u1 n 0 0&&(u1 m 1 1&&u1 a 2 9))&&((b==0)&&W)))=(a1v fe n m a b false false true true&&((m==1)&&((b==0)&&u1 a 2 9)))
  unfold u1 a1v
  rw [Bool.eq_iff_iff]
  cases wf<;>cases fe<;>cases W<;>simp at h1 h2 ⊢ <;>omega
 have e:b49 k wf fe W n m a b=false:=by
  have h:M1 k=false:=c3b k1 k2 k3 k4 h5 k6 k7 k8 k9 k10
  unfold b49
  rw [h];rfl
 rw [e]
 unfold b9G
 rw [if_neg k1,if_neg k2,if_neg k3,if_neg k4,if_neg k6,if_neg (fun h=>h.elim k7 k8),if_neg k9,if_neg k10]
theorem c0z (F:Nat)(q:q7)(hf:q.Field.length≤1000)(hl:q.Words.length≤100)(hw: ∀w∈q.Words,w.length≤1000)(hF:5000<F):P3 F q=some (b19 q):=by
 obtain⟨k,f,ws,a,b,ks⟩:=q
 have sw:E5 F f=some (D0 f):=a0x F f 1000 hf (by omega) (by omega)
 have sws:=fun most=>b8U F ws most hw hl (by omega)
 have hwf:D0 f=true→(f==([]:r4))=false:=a5w
 by_cases h5:k=5
 ·subst h5
  have e:b19 ⟨5,f,ws,a,b,ks⟩=b49 5 (D0 f) (f==[]) (ws.all (a7R 5)) ws.length ks.length a b:=rfl
  rw [e]
  show _=some ((true&&((true== !(f==[]))&&(!true||D0 f)))&&((u1 ws.length 1 1&&(u1 ks.length 0 0&&u1 a 0 0))&&((b==0)&&ws.all (a7R 5))))
  unfold P3
  simp only [Int.reduceBEq,i6,j4,a48,sw,a8]
  by_cases h1:ws.length=1
  ·obtain⟨p,rfl⟩: ∃p,ws=[p]:=List.length_eq_one_iff.1 h1
   have hp:=hw p (.head _)
   have g0:v8 [p] (0:Int)=some p:=rfl
   have hK:[p].all (a7R 5)=(a8c p&& !D0 p):=by
    rw [List.all_cons,List.all_nil,Bool.and_true];rfl
   simp only [g0,a8,b2i F p (by omega) (by omega),a0x F p 1000 hp (by omega) (by omega),a7B,hK,Option.some.injEq]
   generalize ((ks.length:Nat):Int)=m
   unfold u1
   rw [Bool.eq_iff_iff]
   revert hwf
   cases D0 f<;>cases (f==([]:r4))<;>cases a8c p<;>cases D0 p<;>simp <;>omega
  ·have hn:((ws.length:Int)==1)=false:=beq_eq_false_iff_ne.2 (by omega)
   have hb:u1 ws.length 1 1=false:=by
    unfold u1
    by_cases h:(1:Int)≤ws.length
    ·rw [c6 (by omega : ¬(ws.length:Int)≤1),Bool.and_false]
    ·rw [c6 h,Bool.false_and]
   simp only [hn,i6,a7B,hb,Bool.false_and,Bool.and_false]
   rfl
 ·have e:b19 ⟨k,f,ws,a,b,ks⟩=b49 k (D0 f) (f==[]) (ws.all D0) ws.length ks.length a b:=by
   have h:ws.all (a7R k)=ws.all D0:=by
    congr 1
    funext w
    unfold a7R
    rw [beq_eq_false_iff_ne.2 h5];rfl
   rw [←h];rfl
  rw [e,b5a h5 (by omega) (by omega) hwf (fun h=>by rw [List.length_eq_zero_iff.1 (by omega :ws.length=0)];rfl)]
  unfold P3 b9G
  dsimp only
  by_cases k1:k=1
  ·subst k1
   simp only [Int.reduceBEq,i6,j4,a48,sw,sws,inS,a8,a7B]
   rfl
  by_cases k2:k=2
  ·subst k2
   simp only [Int.reduceBEq,i6,j4,a48,sw,sws,inS,a8,a7B]
   rfl
  by_cases k3:k=3
  ·subst k3
   simp only [Int.reduceBEq,i6,j4,a48,sw,sws,inS,a8,a7B]
   rfl
  by_cases k4:k=4
  ·subst k4
   simp only [Int.reduceBEq,i6,j4,a48,sw,sws,inS,a8,a7B]
   rfl
  by_cases k6:k=6
  ·subst k6
   simp only [Int.reduceBEq,i6,j4,a48,sw,sws,inS,a8,a7B]
   rfl
  by_cases k7:k=7
  ·subst k7
   simp only [Int.reduceBEq,i6,j4,a48,inS,a8,a7B]
   rfl
  by_cases k8:k=8
  ·subst k8
   simp only [Int.reduceBEq,i6,a48,inS,a8,a7B]
   rfl
  by_cases k9:k=9
  ·subst k9
   simp only [Int.reduceBEq,i6,j4,a48,inS,a8,a7B]
   rfl
  by_cases k10:k=10
  ·subst k10
   simp only [Int.reduceBEq,i6,j4,a48,inS,a8,a7B]
   rfl
  rw [beq_eq_false_iff_ne.2 k1,beq_eq_false_iff_ne.2 k2,beq_eq_false_iff_ne.2 k3,beq_eq_false_iff_ne.2 k4,beq_eq_false_iff_ne.2 h5,beq_eq_false_iff_ne.2 k6,beq_eq_false_iff_ne.2 k7,beq_eq_false_iff_ne.2 k8,beq_eq_false_iff_ne.2 k9,beq_eq_false_iff_ne.2 k10,if_neg k1,if_neg k2,if_neg k3,if_neg k4,if_neg k6,if_neg (fun h=>h.elim k7 k8),if_neg k9,if_neg k10]
  rfl
theorem b6D: ∀(d F:Nat) (q:q7),a7Y d q→d+6000<F→d≤1000→N8 F q (d:Int)=some (okQ d q)
 | 0,0,q,_,h,_=>by omega
 | 0,F+1,q,_,_,_=>by
  rw [N8];rfl
 | d+1,0,q,_,h,_=>by omega
 | d+1,F+1,q,hs,h,h2=>by
  obtain⟨s1,s2,s3,s4,s5⟩:=hs
  rw [N8]
  dsimp only
  rw [beq_eq_false_iff_ne.2 (show ((d+1:Nat):Int)≠0 by omega),i6,c0z F q s1 s2 s3 (by omega),a8,a8]
  show _=some (b19 q&&q.Kids.all (okQ d))
  cases b19 q with
  | false=>rfl
  | true=>
  rw [l7,i6,u5,a1R (okQ d) (xs:=q.Kids) F (by omega) (fun i x hx=>?_) ?_]
  ·cases q.Kids.all (okQ d)<;>rfl
  ·rw [c6 (by omega)];rfl
  ·have hi:=(i4.1 hx).1
   rw [b8 (by omega),j4,n8,hx,a8,show z8 (((d+1:Nat):Int)-1)=(d:Int) from by rw [C5 ⟨by omega,by omega⟩];omega,b6D d F x (s5 x (n5 hx)) (by omega) (by omega),a8,y5 (by omega)]
   cases okQ d x<;>rfl
theorem c2s (F:Nat)(q:q7)(hs:a7Y 4 q)(hF:7000<F):Z1 F q=some (okQ 4 q):=by
 unfold Z1
 have:=b6D 4 F q hs (by omega) (by omega)
 rw [show ((4:Nat):Int)=4 from rfl] at this
 rw [this];rfl
theorem a5z {α:Type}{l:List α}(h:((l.length:Nat):Int)=0):l=[]:=List.length_eq_zero_iff.1 (by omega)
theorem b22: ∀(d:Nat) (q:q7),okQ d q=true→I3 d q
 | 0,q,h=>by cases h
 | d+1,q,h=>by
  change (b19 q&&q.Kids.all (okQ d))=true at h
  rw [q8] at h
  obtain⟨h,hk⟩:=h
  have hkids: ∀k∈q.Kids,I3 d k:=fun k hm=>b22 d k (List.all_eq_true.1 hk k hm)
  obtain⟨k,f,ws,a,b,ks⟩:=q
  by_cases h5:k=5
  ·subst h5
   change ((true&&((true== !(f==[]))&&(!true||D0 f)))&&((u1 ws.length 1 1&&(u1 ks.length 0 0&&u1 a 0 0))&&((b==0)&&ws.all (a7R 5))))=true at h
   unfold u1 at h
   simp only [q8,decide_eq_true_eq,beq_iff_eq,u5,l7,Bool.false_or] at h
   obtain⟨⟨_,hf⟩,⟨⟨w1,w2⟩,⟨m1,m2⟩,a1,a2⟩,hb,hw⟩:=h
   obtain⟨p,rfl⟩: ∃p,ws=[p]:=List.length_eq_one_iff.1 (by omega)
   have:ks=[]:=a5z (by omega)
   subst this
   have:a=0:=by omega
   subst this
   subst hb
   have hp:=List.all_eq_true.1 hw p (.head _)
   change (a8c p&& !D0 p)=true at hp
   simp only [q8,Bool.not_eq_true'] at hp
   exact .leaf (.glob hf hp.1 hp.2)
  ·have e:b19 ⟨k,f,ws,a,b,ks⟩=b49 k (D0 f) (f==[]) (ws.all D0) ws.length ks.length a b:=by
    have h:ws.all (a7R k)=ws.all D0:=by
     congr 1
     funext w
     unfold a7R
     rw [beq_eq_false_iff_ne.2 h5];rfl
    rw [←h];rfl
   rw [e,b5a h5 (by omega) (by omega) a5w (fun h=>by rw [List.length_eq_zero_iff.1 (by omega :ws.length=0)];rfl)] at h
   unfold b9G a1v u1 at h
   by_cases k1:k=1
   ·subst k1
    change ((false||f==[])&&((false||((ws.length:Nat):Int)==0)&&((false||((a==0)&&(b==0)))&&(false||((ks.length:Nat):Int)==0))))=true at h
    simp only [q8,Bool.false_or,beq_iff_eq] at h
    obtain⟨hf,hn,⟨ha,hb⟩,hm⟩:=h
    rw [a5z hn,a5z hm,ha,hb,hf]
    exact .leaf .all
   by_cases k2:k=2
   ·subst k2
    change (((true||f==[])&&((true||((ws.length:Nat):Int)==0)&&((false||((a==0)&&(b==0)))&&(false||((ks.length:Nat):Int)==0))))&&(D0 f&&(ws.all D0&&(decide (1≤((ws.length:Nat):Int))&&decide (((ws.length:Nat):Int)≤1)))))=true at h
    simp only [q8,Bool.true_or,Bool.false_or,true_and,decide_eq_true_eq,beq_iff_eq] at h
    obtain⟨⟨⟨ha,hb⟩,hm⟩,hf,hw,w1,w2⟩:=h
    obtain⟨p,rfl⟩: ∃p,ws=[p]:=List.length_eq_one_iff.1 (by omega)
    rw [a5z hm,ha,hb]
    exact .leaf (.term hf (List.all_eq_true.1 hw p (.head _)))
   by_cases k3:k=3
   ·subst k3
    change (((true||f==[])&&((true||((ws.length:Nat):Int)==0)&&((true||((a==0)&&(b==0)))&&(false||((ks.length:Nat):Int)==0))))&&(D0 f&&((ws.all D0&&(decide (1≤((ws.length:Nat):Int))&&decide (((ws.length:Nat):Int)≤4)))&&(decide (1<((ws.length:Nat):Int))&&((b==0)&&(decide (0≤a)&&decide (a≤5)))))))=true at h
    simp only [q8,Bool.true_or,Bool.false_or,true_and,decide_eq_true_eq,beq_iff_eq] at h
    obtain⟨hm,hf,⟨hw,w1,w2⟩,w3,hb,a1,a2⟩:=h
    rw [a5z hm,hb]
    exact .leaf (.phrase hf (by omega) (by omega) (fun w hm=>List.all_eq_true.1 hw w hm) a1 a2)
   by_cases k4:k=4
   ·subst k4
    change (((true||f==[])&&((true||((ws.length:Nat):Int)==0)&&((true||((a==0)&&(b==0)))&&(false||((ks.length:Nat):Int)==0))))&&(D0 f&&((ws.all D0&&(decide (1≤((ws.length:Nat):Int))&&decide (((ws.length:Nat):Int)≤1)))&&((b==0)&&(decide (1≤a)&&decide (a≤2))))))=true at h
    simp only [q8,Bool.true_or,Bool.false_or,true_and,decide_eq_true_eq,beq_iff_eq] at h
    obtain⟨hm,hf,⟨hw,w1,w2⟩,hb,a1,a2⟩:=h
    obtain⟨p,rfl⟩: ∃p,ws=[p]:=List.length_eq_one_iff.1 (by omega)
    rw [a5z hm,hb]
    exact .leaf (.near hf (List.all_eq_true.1 hw p (.head _)) a1 a2)
   by_cases k6:k=6
   ·subst k6
    change (((true||f==[])&&((false||((ws.length:Nat):Int)==0)&&((true||((a==0)&&(b==0)))&&(false||((ks.length:Nat):Int)==0))))&&(D0 f&&((decide (0≤a)&&decide (a≤999999999))&&(decide (a≤b)&&decide (b≤999999999)))))=true at h
    simp only [q8,Bool.true_or,Bool.false_or,true_and,decide_eq_true_eq,beq_iff_eq] at h
    obtain⟨⟨hn,hm⟩,hf,⟨a1,a2⟩,b1,b2⟩:=h
    rw [a5z hm,a5z hn]
    exact .leaf (.range hf a1 a2 b1 b2)
   by_cases k7:k=7
   ·subst k7
    change (((false||f==[])&&((false||((ws.length:Nat):Int)==0)&&((false||((a==0)&&(b==0)))&&(true||((ks.length:Nat):Int)==0))))&&(decide (2≤((ks.length:Nat):Int))&&decide (((ks.length:Nat):Int)≤4)))=true at h
    simp only [q8,Bool.true_or,Bool.false_or,and_true,decide_eq_true_eq,beq_iff_eq] at h
    obtain⟨⟨hf,hn,ha,hb⟩,m1,m2⟩:=h
    rw [a5z hn,ha,hb,hf]
    exact .and (by omega) (by omega) hkids
   by_cases k8:k=8
   ·subst k8
    change (((false||f==[])&&((false||((ws.length:Nat):Int)==0)&&((false||((a==0)&&(b==0)))&&(true||((ks.length:Nat):Int)==0))))&&(decide (2≤((ks.length:Nat):Int))&&decide (((ks.length:Nat):Int)≤4)))=true at h
    simp only [q8,Bool.true_or,Bool.false_or,and_true,decide_eq_true_eq,beq_iff_eq] at h
    obtain⟨⟨hf,hn,ha,hb⟩,m1,m2⟩:=h
    rw [a5z hn,ha,hb,hf]
    exact .or (by omega) (by omega) hkids
   by_cases k9:k=9
   ·subst k9
    change (((false||f==[])&&((false||((ws.length:Nat):Int)==0)&&((false||((a==0)&&(b==0)))&&(true||((ks.length:Nat):Int)==0))))&&(((ks.length:Nat):Int)==2))=true at h
    simp only [q8,Bool.true_or,Bool.false_or,and_true,beq_iff_eq] at h
    obtain⟨⟨hf,hn,ha,hb⟩,hm⟩:=h
    obtain⟨x,y,rfl⟩: ∃x y,ks=[x,y]:=by
     match ks,(show ks.length=2 by omega) with
     | [x,y],_=>exact⟨x,y,rfl⟩
    rw [a5z hn,ha,hb,hf]
    exact .less (hkids x (.head _)) (hkids y (.tail _ (.head _)))
   by_cases k10:k=10
   ·subst k10
    change (((false||f==[])&&((false||((ws.length:Nat):Int)==0)&&((true||((a==0)&&(b==0)))&&(true||((ks.length:Nat):Int)==0))))&&((((ks.length:Nat):Int)==1)&&((b==0)&&(decide (2≤a)&&decide (a≤9)))))=true at h
    simp only [q8,Bool.true_or,Bool.false_or,and_true,decide_eq_true_eq,beq_iff_eq] at h
    obtain⟨⟨hf,hn⟩,hm,hb,a1,a2⟩:=h
    obtain⟨x,rfl⟩: ∃x,ks=[x]:=List.length_eq_one_iff.1 (by omega)
    rw [a5z hn,hb,hf]
    exact .times a1 a2 (hkids x (.head _))
   rw [if_neg k1,if_neg k2,if_neg k3,if_neg k4,if_neg k6,if_neg (fun h=>h.elim k7 k8),if_neg k9,if_neg k10] at h
   cases h
end Go.Fk
