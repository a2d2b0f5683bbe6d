/-
  Which questions are ok, of all of them. Of no program.
-/
import Derived.Test.YtepcfgnicnibnaaGreatDoorLawQs
set_option linter.unusedVariables false
namespace Go.Fk
open Go
def inB (x a b:Int):Bool:=decide (a≤x)&&decide (x≤b)
def a7l (k:Int)(w:q9):Bool:=if k==5 then a7B w&& !D0 w else D0 w
def c17 (has:Bool)(g:X5)(q:r5):Bool:=
 (has&&((g.field_== !(q.Field==[]))&&(!g.field_||D0 q.Field)))&&((inB q.Words.length g.leastWords_ g.mostWords_&&(inB q.Kids.length g.leastKids_ g.mostKids_&&inB q.From g.low_ g.high_))&&((if g.ranged_ then inB q.To q.From 999999999 else q.To==0)&&q.Words.all (a7l q.Kind)))
def b1w (q:r5):Bool:=c17 (J3 q.Kind) (z8 q.Kind) q
def okQ:Nat→r5→Bool
 | 0,_=>false
 | d+1,q=>b1w q&&q.Kids.all (okQ d)
theorem b21: ∀(d F:Nat) (q:r5),d<F→d≤1000→H8 F q (d:Int)=some (okQ d q)
 | 0,0,_,h,_=>by omega
 | 0,F+1,q,_,_=>by
  rw [H8]
  dsimp only
  rw [b8 (show ((0:Nat):Int)<1 by omega)]
  cases J3 q.Kind<;>rfl
 | d+1,0,_,h,_=>by omega
 | d+1,F+1,q,h,h2=>by
  rw [H8]
  dsimp only
  rw [c6 (show ¬((d+1:Nat):Int)<1 by omega),i6]
  show _=some (c17 (J3 q.Kind) (z8 q.Kind) q&&q.Kids.all (okQ d))
  generalize J3 q.Kind=hb
  generalize z8 q.Kind=g
  unfold c17
  have e1:(cond (!hb) (some true) (cond (!(g.field_==(!(q.Field==[])))) (some true) (cond g.field_ ((G4 F q.Field).bind fun r50=>(some (!r50))) (some false))))=some (!(hb&&((g.field_== !(q.Field==[]))&&(!g.field_||D0 q.Field)))):=by
   rw [M0]
   cases hb
   ·rfl
   ·cases hx:(g.field_== !(q.Field==[]))
    ·rfl
    ·cases g.field_
     ·rfl
     ·cases D0 q.Field<;>rfl
  rw [e1,a8]
  cases hb&&((g.field_== !(q.Field==[]))&&(!g.field_||D0 q.Field)) with
  | false=>rfl
  | true=>
  rw [l9,i6,q8]
  have e2:((y9 F (q.Words.length:Int) (g.leastWords_) (g.mostWords_)).bind fun r70=>(cond (!r70) (some true) ((y9 F (q.Kids.length:Int) (g.leastKids_) (g.mostKids_)).bind fun r80=>(cond (!r80) (some true) ((y9 F q.From (g.low_) (g.high_)).bind fun r90=>(some (!r90)))))))=some (!(inB q.Words.length g.leastWords_ g.mostWords_&&(inB q.Kids.length g.leastKids_ g.mostKids_&&inB q.From g.low_ g.high_))):=by
   rw [M7,a8,M7,a8,M7,a8]
   show cond (!inB q.Words.length g.leastWords_ g.mostWords_) _ (cond (!inB q.Kids.length g.leastKids_ g.mostKids_) _ (some (!inB q.From g.low_ g.high_)))=_
   cases inB q.Words.length g.leastWords_ g.mostWords_
   ·rfl
   ·cases inB q.Kids.length g.leastKids_ g.mostKids_<;>rfl
  rw [e2,a8]
  cases inB q.Words.length g.leastWords_ g.mostWords_&&(inB q.Kids.length g.leastKids_ g.mostKids_&&inB q.From g.low_ g.high_) with
  | false=>rfl
  | true=>
  rw [l9,i6,q8]
  have e3:(cond g.ranged_ ((y9 F q.To q.From 999999999).bind fun r110=>(cond (!r110) (some true) (cond (!g.ranged_) (some (!(q.To==0))) (some false)))) (cond (!g.ranged_) (some (!(q.To==0))) (some false)))=some (!(if g.ranged_ then inB q.To q.From 999999999 else q.To==0)):=by
   rw [M7,a8]
   show cond g.ranged_ (cond (!inB q.To q.From 999999999) _ _) _=_
   cases g.ranged_
   ·rfl
   ·cases inB q.To q.From 999999999<;>rfl
  rw [e3,a8]
  cases (if g.ranged_ then inB q.To q.From 999999999 else q.To==0) with
  | false=>rfl
  | true=>
  rw [l9,i6,q8,b0m (p:=a7l q.Kind) (xs:=q.Words) (e:=false) (fun i x hx=>?_) q.Words.length 0 (by omega),List.drop_zero]
  ·cases q.Words.all (a7l q.Kind) with
   | false=>rfl
   | true=>
    rw [if_pos rfl,a8,q8]
    show (((C7 _ _ 0 ()).bind _).bind _)=_
    rw [b0m (p:=okQ d) (xs:=q.Kids) (e:=false) (fun i x hx=>?_) q.Kids.length 0 (by omega),List.drop_zero]
    ·cases q.Kids.all (okQ d)<;>rfl
    ·rw [n5,hx,a8,show A1 (((d+1:Nat):Int)-1)=(d:Int) from by rw [B9 ⟨by omega,by omega⟩];omega,b21 d F x (by omega) (by omega),a8]
     cases okQ d x<;>rfl
  ·rw [n5,hx,a8,M0,a7C]
   unfold a7l
   cases q.Kind==5
   ·cases D0 x<;>rfl
   ·cases a7B x
    ·rfl
    ·cases D0 x<;>rfl
theorem b6K (F:Nat)(q:r5)(hF:10<F):X6 F q=some (okQ 4 q):=by
 unfold X6
 have:=b21 4 F q (by omega) (by omega)
 rw [show ((4:Nat):Int)=4 from rfl] at this
 rw [this];rfl
def a7p:Nat→r5→Prop
 | 0,_=>True
 | d+1,q=>q.Field.length≤1000∧q.Words.length≤100∧(∀w∈q.Words,w.length≤1000)∧q.Kids.length≤100∧∀k∈q.Kids,a7p d k
theorem b80 (F:Nat)(ws:List q9)(most:Int)(hw: ∀w∈ws,w.length≤1000)(hl:ws.length≤100)(hF:3000<F):O7 F ws most=some (ws.all D0&&inB ws.length 1 most):=by
 unfold O7
 rw [a07 D0 (xs:=ws) F (by omega) (fun i x hx=>?_) ?_]
 ·cases ws.all D0 with
  | false=>rfl
  | true=>
   rw [if_pos rfl,a8,q8]
   show (((some (Sum.inl ()):Option (Unit⊕Bool))).bind fun o6=>o6.elim (fun s9=>((D7 F (ws.length:Int) 1 most).bind fun r52=>(some r52))) (fun t60=>(some t60)))=_
   rw [a8,Sum.elim_inl,inS];rfl
 ·rw [c6 (by omega)];rfl
 ·have hi:=(i4.1 hx).1
  have hwx:=hw x (l7 hx)
  rw [b8 (by omega),i9,n5,hx,a8,Y8 F x 1000 hwx (by omega) (by omega),a8,y2 (by omega)]
  cases D0 x<;>rfl
theorem a67 (a b:Bool):cond a (some b) (some false)=some (a&&b):=by cases a<;>rfl
theorem a4o (F:Nat)(q:r5)(a b c d:Bool):E6 F q a b c d=some ((a||q.Field==[])&&((b||(q.Words.length:Int)==0)&&((c||((q.From==0)&&(q.To==0)))&&(d||(q.Kids.length:Int)==0)))):=by
 unfold E6
 cases a<;>cases b<;>cases c<;>cases d<;>simp only [a67,Bool.true_or,Bool.false_or,q8,Bool.and_true,Bool.and_assoc,i9,i6]<;>first | rfl | (cases (q.Field==([]:q9))<;>first | rfl | (cases ((q.Words.length:Int)==0)<;>first | rfl | (cases (q.From==0)<;>first | rfl | (cases (q.To==0)<;>rfl))))
def b4S (k:Int)(wf fe W:Bool)(n m a b:Int):Bool:=
 let g:=z8 k
 (J3 k&&((g.field_== !fe)&&(!g.field_||wf)))&&((inB n g.leastWords_ g.mostWords_&&(inB m g.leastKids_ g.mostKids_&&inB a g.low_ g.high_))&&((if g.ranged_ then inB b a 999999999 else b==0)&&W))
def a0P (fe:Bool)(n m a b:Int)(p q r t:Bool):Bool:=(p||fe)&&((q||n==0)&&((r||((a==0)&&(b==0)))&&(t||m==0)))
def b9P (k:Int)(wf fe W:Bool)(n m a b:Int):Bool:=
 if k=1 then a0P fe n m a b false false false false
 else if k=2 then a0P fe n m a b true true false false&&(wf&&(W&&inB n 1 1))
 else if k=3 then a0P fe n m a b true true true false&&(wf&&((W&&inB n 1 4)&&(decide (1<n)&&((b==0)&&inB a 0 5))))
 else if k=4 then a0P fe n m a b true true true false&&(wf&&((W&&inB n 1 1)&&((b==0)&&inB a 1 2)))
 else if k=6 then a0P fe n m a b true false true false&&(wf&&(inB a 0 999999999&&inB b a 999999999))
 else if k=7∨k=8 then a0P fe n m a b false false false true&&inB m 2 4
 else if k=9 then a0P fe n m a b false false false true&&(m==2)
 else if k=10 then a0P fe n m a b false false true true&&((m==1)&&((b==0)&&inB a 2 9))
 else false
theorem c3u {k:Int}(k1:k≠1)(k2:k≠2)(k3:k≠3)(k4:k≠4)(k5:k≠5)(k6:k≠6)(k7:k≠7)(k8:k≠8)(k9:k≠9)(k10:k≠10):J3 k=false:=by
 unfold J3 a4O
 rw [List.find?_eq_none.2 fun p hp=>?_]
 ·rfl
 ·unfold L3 at hp
  simp only [List.mem_cons,List.not_mem_nil,or_false] at hp
  have h:p.1≠k:=by
   rcases hp with rfl | rfl | rfl | rfl | rfl | rfl | rfl | rfl | rfl | rfl
   ·exact Ne.symm k1
   ·exact Ne.symm k2
   ·exact Ne.symm k3
   ·exact Ne.symm k4
   ·exact Ne.symm k5
   ·exact Ne.symm k6
   ·exact Ne.symm k7
   ·exact Ne.symm k8
   ·exact Ne.symm k9
   ·exact Ne.symm k10
  rw [beq_eq_false_iff_ne.2 h]
  decide
theorem b4T {k:Int}(h5:k≠5){wf fe W:Bool}{n m a b:Int}(hn:0≤n)(hm:0≤m)(h1:wf=true→fe=false)(h2:n=0→W=true):b4S k wf fe W n m a b=b9P k wf fe W n m a b:=by
 by_cases k1:k=1
 ·subst k1
  show ((true&&((false== !fe)&&(!false||wf)))&&((inB n 0 0&&(inB m 0 0&&inB a 0 0))&&((b==0)&&W)))=(a0P fe n m a b false false false false)
  unfold inB a0P
  rw [Bool.eq_iff_iff]
  cases wf<;>cases fe<;>cases W<;>simp at h1 h2 ⊢ <;>omega
 by_cases k2:k=2
 ·subst k2
  show ((true&&((true== !fe)&&(!true||wf)))&&((inB n 1 1&&(inB m 0 0&&inB a 0 0))&&((b==0)&&W)))=(a0P fe n m a b true true false false&&(wf&&(W&&inB n 1 1)))
  unfold inB a0P
  rw [Bool.eq_iff_iff]
  cases wf<;>cases fe<;>cases W<;>simp at h1 h2 ⊢ <;>omega
 by_cases k3:k=3
 ·subst k3
  show ((true&&((true== !fe)&&(!true||wf)))&&((inB n 2 4&&(inB m 0 0&&inB a 0 5))&&((b==0)&&W)))=(a0P fe n m a b true true true false&&(wf&&((W&&inB n 1 4)&&(decide (1<n)&&((b==0)&&inB a 0 5)))))
  unfold inB a0P
  rw [Bool.eq_iff_iff]
  cases wf<;>cases fe<;>cases W<;>simp at h1 h2 ⊢ <;>omega
 by_cases k4:k=4
 ·subst k4
  show ((true&&((true== !fe)&&(!true||wf)))&&((inB n 1 1&&(inB m 0 0&&inB a 1 2))&&((b==0)&&W)))=(a0P fe n m a b true true true false&&(wf&&((W&&inB n 1 1)&&((b==0)&&inB a 1 2))))
  unfold inB a0P
  rw [Bool.eq_iff_iff]
  cases wf<;>cases fe<;>cases W<;>simp at h1 h2 ⊢ <;>omega
 by_cases k6:k=6
 ·subst k6
  show ((true&&((true== !fe)&&(!true||wf)))&&((inB n 0 0&&(inB m 0 0&&inB a 0 999999999))&&((inB b a 999999999)&&W)))=(a0P fe n m a b true false true false&&(wf&&(inB a 0 999999999&&inB b a 999999999)))
  unfold inB a0P
  rw [Bool.eq_iff_iff]
  cases wf<;>cases fe<;>cases W<;>simp at h1 h2 ⊢ <;>omega
 by_cases k7:k=7
 ·subst k7
  show ((true&&((false== !fe)&&(!false||wf)))&&((inB n 0 0&&(inB m 2 4&&inB a 0 0))&&((b==0)&&W)))=(a0P fe n m a b false false false true&&inB m 2 4)
  unfold inB a0P
  rw [Bool.eq_iff_iff]
  cases wf<;>cases fe<;>cases W<;>simp at h1 h2 ⊢ <;>omega
 by_cases k8:k=8
 ·subst k8
  show ((true&&((false== !fe)&&(!false||wf)))&&((inB n 0 0&&(inB m 2 4&&inB a 0 0))&&((b==0)&&W)))=(a0P fe n m a b false false false true&&inB m 2 4)
  unfold inB a0P
  rw [Bool.eq_iff_iff]
  cases wf<;>cases fe<;>cases W<;>simp at h1 h2 ⊢ <;>omega
 by_cases k9:k=9
 ·subst k9
  show ((true&&((false== !fe)&&(!false||wf)))&&((inB n 0 0&&(inB m 2 2&&inB a 0 0))&&((b==0)&&W)))=(a0P fe n m a b false false false true&&(m==2))
  unfold inB a0P
  rw [Bool.eq_iff_iff]
  cases wf<;>cases fe<;>cases W<;>simp at h1 h2 ⊢ <;>omega
 by_cases k10:k=10
 ·subst k10
  show ((true&&((false== !fe)&&(!false||wf)))&&((inB n 0 0&&(inB m 1 1&&inB a 2 9))&&((b==0)&&W)))=(a0P fe n m a b false false true true&&((m==1)&&((b==0)&&inB a 2 9)))
  unfold inB a0P
  rw [Bool.eq_iff_iff]
  cases wf<;>cases fe<;>cases W<;>simp at h1 h2 ⊢ <;>omega
 have e:b4S k wf fe W n m a b=false:=by
  have h:J3 k=false:=c3u k1 k2 k3 k4 h5 k6 k7 k8 k9 k10
  unfold b4S
  rw [h];rfl
 rw [e]
 unfold b9P
 rw [if_neg k1,if_neg k2,if_neg k3,if_neg k4,if_neg k6,if_neg (fun h=>h.elim k7 k8),if_neg k9,if_neg k10]
theorem c0w (F:Nat)(q:r5)(hf:q.Field.length≤1000)(hl:q.Words.length≤100)(hw: ∀w∈q.Words,w.length≤1000)(hF:5000<F):M9 F q=some (b1w q):=by
 obtain⟨k,f,ws,a,b,ks⟩:=q
 have sw:D6 F f=some (D0 f):=Y8 F f 1000 hf (by omega) (by omega)
 have sws:=fun most=>b80 F ws most hw hl (by omega)
 have hwf:D0 f=true→(f==([]:q9))=false:=a5H
 by_cases h5:k=5
 ·subst h5
  have e:b1w ⟨5,f,ws,a,b,ks⟩=b4S 5 (D0 f) (f==[]) (ws.all (a7l 5)) ws.length ks.length a b:=rfl
  rw [e]
  show _=some ((true&&((true== !(f==[]))&&(!true||D0 f)))&&((inB ws.length 1 1&&(inB ks.length 0 0&&inB a 0 0))&&((b==0)&&ws.all (a7l 5))))
  unfold M9
  simp only [Int.reduceBEq,i6,i9,a4o,sw,a8]
  by_cases h1:ws.length=1
  ·obtain⟨p,rfl⟩: ∃p,ws=[p]:=List.length_eq_one_iff.1 h1
   have hp:=hw p (.head _)
   have g0:u0 [p] (0:Int)=some p:=rfl
   have hK:[p].all (a7l 5)=(a7B p&& !D0 p):=by
    rw [List.all_cons,List.all_nil,Bool.and_true];rfl
   simp only [g0,a8,b1E F p (by omega) (by omega),Y8 F p 1000 hp (by omega) (by omega),a67,hK,Option.some.injEq]
   generalize ((ks.length:Nat):Int)=m
   unfold inB
   rw [Bool.eq_iff_iff]
   revert hwf
   cases D0 f<;>cases (f==([]:q9))<;>cases a7B p<;>cases D0 p<;>simp <;>omega
  ·have hn:((ws.length:Int)==1)=false:=beq_eq_false_iff_ne.2 (by omega)
   have hb:inB ws.length 1 1=false:=by
    unfold inB
    by_cases h:(1:Int)≤ws.length
    ·rw [c6 (by omega : ¬(ws.length:Int)≤1),Bool.and_false]
    ·rw [c6 h,Bool.false_and]
   simp only [hn,i6,a67,hb,Bool.false_and,Bool.and_false]
   rfl
 ·have e:b1w ⟨k,f,ws,a,b,ks⟩=b4S k (D0 f) (f==[]) (ws.all D0) ws.length ks.length a b:=by
   have h:ws.all (a7l k)=ws.all D0:=by
    congr 1
    funext w
    unfold a7l
    rw [beq_eq_false_iff_ne.2 h5];rfl
   rw [←h];rfl
  rw [e,b4T h5 (by omega) (by omega) hwf (fun h=>by rw [List.length_eq_zero_iff.1 (by omega :ws.length=0)];rfl)]
  unfold M9 b9P
  dsimp only
  by_cases k1:k=1
  ·subst k1
   simp only [Int.reduceBEq,i6,i9,a4o,sw,sws,inS,a8,a67]
   rfl
  by_cases k2:k=2
  ·subst k2
   simp only [Int.reduceBEq,i6,i9,a4o,sw,sws,inS,a8,a67]
   rfl
  by_cases k3:k=3
  ·subst k3
   simp only [Int.reduceBEq,i6,i9,a4o,sw,sws,inS,a8,a67]
   rfl
  by_cases k4:k=4
  ·subst k4
   simp only [Int.reduceBEq,i6,i9,a4o,sw,sws,inS,a8,a67]
   rfl
  by_cases k6:k=6
  ·subst k6
   simp only [Int.reduceBEq,i6,i9,a4o,sw,sws,inS,a8,a67]
   rfl
  by_cases k7:k=7
  ·subst k7
   simp only [Int.reduceBEq,i6,i9,a4o,inS,a8,a67]
   rfl
  by_cases k8:k=8
  ·subst k8
   simp only [Int.reduceBEq,i6,a4o,inS,a8,a67]
   rfl
  by_cases k9:k=9
  ·subst k9
   simp only [Int.reduceBEq,i6,i9,a4o,inS,a8,a67]
   rfl
  by_cases k10:k=10
  ·subst k10
   simp only [Int.reduceBEq,i6,i9,a4o,inS,a8,a67]
   rfl
  rw [beq_eq_false_iff_ne.2 k1,beq_eq_false_iff_ne.2 k2,beq_eq_false_iff_ne.2 k3,beq_eq_false_iff_ne.2 k4,beq_eq_false_iff_ne.2 h5,beq_eq_false_iff_ne.2 k6,beq_eq_false_iff_ne.2 k7,beq_eq_false_iff_ne.2 k8,beq_eq_false_iff_ne.2 k9,beq_eq_false_iff_ne.2 k10,if_neg k1,if_neg k2,if_neg k3,if_neg k4,if_neg k6,if_neg (fun h=>h.elim k7 k8),if_neg k9,if_neg k10]
  rfl
theorem b6r: ∀(d F:Nat) (q:r5),a7p d q→d+6000<F→d≤1000→L7 F q (d:Int)=some (okQ d q)
 | 0,0,q,_,h,_=>by omega
 | 0,F+1,q,_,_,_=>by
  rw [L7];rfl
 | d+1,0,q,_,h,_=>by omega
 | d+1,F+1,q,hs,h,h2=>by
  obtain⟨s1,s2,s3,s4,s5⟩:=hs
  rw [L7]
  dsimp only
  rw [beq_eq_false_iff_ne.2 (show ((d+1:Nat):Int)≠0 by omega),i6,c0w F q s1 s2 s3 (by omega),a8,a8]
  show _=some (b1w q&&q.Kids.all (okQ d))
  cases b1w q with
  | false=>rfl
  | true=>
  rw [l9,i6,q8,a07 (okQ d) (xs:=q.Kids) F (by omega) (fun i x hx=>?_) ?_]
  ·cases q.Kids.all (okQ d)<;>rfl
  ·rw [c6 (by omega)];rfl
  ·have hi:=(i4.1 hx).1
   rw [b8 (by omega),i9,n5,hx,a8,show A1 (((d+1:Nat):Int)-1)=(d:Int) from by rw [B9 ⟨by omega,by omega⟩];omega,b6r d F x (s5 x (l7 hx)) (by omega) (by omega),a8,y2 (by omega)]
   cases okQ d x<;>rfl
theorem c2H (F:Nat)(q:r5)(hs:a7p 4 q)(hF:7000<F):V9 F q=some (okQ 4 q):=by
 unfold V9
 have:=b6r 4 F q hs (by omega) (by omega)
 rw [show ((4:Nat):Int)=4 from rfl] at this
 rw [this];rfl
theorem a4L {α:Type}{l:List α}(h:((l.length:Nat):Int)=0):l=[]:=List.length_eq_zero_iff.1 (by omega)
theorem b5z: ∀(d:Nat) (q:r5),okQ d q=true→I8 d q
 | 0,q,h=>by cases h
 | d+1,q,h=>by
  change (b1w q&&q.Kids.all (okQ d))=true at h
  rw [l8] at h
  obtain⟨h,hk⟩:=h
  have hkids: ∀k∈q.Kids,I8 d k:=fun k hm=>b5z d k (List.all_eq_true.1 hk k hm)
  obtain⟨k,f,ws,a,b,ks⟩:=q
  by_cases h5:k=5
  ·subst h5
   change ((true&&((true== !(f==[]))&&(!true||D0 f)))&&((inB ws.length 1 1&&(inB ks.length 0 0&&inB a 0 0))&&((b==0)&&ws.all (a7l 5))))=true at h
   unfold inB at h
   simp only [l8,decide_eq_true_eq,beq_iff_eq,q8,l9,Bool.false_or] at h
   obtain⟨⟨_,hf⟩,⟨⟨w1,w2⟩,⟨m1,m2⟩,a1,a2⟩,hb,hw⟩:=h
   obtain⟨p,rfl⟩: ∃p,ws=[p]:=List.length_eq_one_iff.1 (by omega)
   have:ks=[]:=a4L (by omega)
   subst this
   have:a=0:=by omega
   subst this
   subst hb
   have hp:=List.all_eq_true.1 hw p (.head _)
   change (a7B p&& !D0 p)=true at hp
   simp only [l8,Bool.not_eq_true'] at hp
   exact .leaf (.glob hf hp.1 hp.2)
  ·have e:b1w ⟨k,f,ws,a,b,ks⟩=b4S k (D0 f) (f==[]) (ws.all D0) ws.length ks.length a b:=by
    have h:ws.all (a7l k)=ws.all D0:=by
     congr 1
     funext w
     unfold a7l
     rw [beq_eq_false_iff_ne.2 h5];rfl
    rw [←h];rfl
   rw [e,b4T h5 (by omega) (by omega) a5H (fun h=>by rw [List.length_eq_zero_iff.1 (by omega :ws.length=0)];rfl)] at h
   unfold b9P a0P inB at h
   by_cases k1:k=1
   ·subst k1
    change ((false||f==[])&&((false||((ws.length:Nat):Int)==0)&&((false||((a==0)&&(b==0)))&&(false||((ks.length:Nat):Int)==0))))=true at h
    simp only [l8,Bool.false_or,beq_iff_eq] at h
    obtain⟨hf,hn,⟨ha,hb⟩,hm⟩:=h
    rw [a4L hn,a4L hm,ha,hb,hf]
    exact .leaf .all
   by_cases k2:k=2
   ·subst k2
    change (((true||f==[])&&((true||((ws.length:Nat):Int)==0)&&((false||((a==0)&&(b==0)))&&(false||((ks.length:Nat):Int)==0))))&&(D0 f&&(ws.all D0&&(decide (1≤((ws.length:Nat):Int))&&decide (((ws.length:Nat):Int)≤1)))))=true at h
    simp only [l8,Bool.true_or,Bool.false_or,true_and,decide_eq_true_eq,beq_iff_eq] at h
    obtain⟨⟨⟨ha,hb⟩,hm⟩,hf,hw,w1,w2⟩:=h
    obtain⟨p,rfl⟩: ∃p,ws=[p]:=List.length_eq_one_iff.1 (by omega)
    rw [a4L hm,ha,hb]
    exact .leaf (.term hf (List.all_eq_true.1 hw p (.head _)))
   by_cases k3:k=3
   ·subst k3
    change (((true||f==[])&&((true||((ws.length:Nat):Int)==0)&&((true||((a==0)&&(b==0)))&&(false||((ks.length:Nat):Int)==0))))&&(D0 f&&((ws.all D0&&(decide (1≤((ws.length:Nat):Int))&&decide (((ws.length:Nat):Int)≤4)))&&(decide (1<((ws.length:Nat):Int))&&((b==0)&&(decide (0≤a)&&decide (a≤5)))))))=true at h
    simp only [l8,Bool.true_or,Bool.false_or,true_and,decide_eq_true_eq,beq_iff_eq] at h
    obtain⟨hm,hf,⟨hw,w1,w2⟩,w3,hb,a1,a2⟩:=h
    rw [a4L hm,hb]
    exact .leaf (.phrase hf (by omega) (by omega) (fun w hm=>List.all_eq_true.1 hw w hm) a1 a2)
   by_cases k4:k=4
   ·subst k4
    change (((true||f==[])&&((true||((ws.length:Nat):Int)==0)&&((true||((a==0)&&(b==0)))&&(false||((ks.length:Nat):Int)==0))))&&(D0 f&&((ws.all D0&&(decide (1≤((ws.length:Nat):Int))&&decide (((ws.length:Nat):Int)≤1)))&&((b==0)&&(decide (1≤a)&&decide (a≤2))))))=true at h
    simp only [l8,Bool.true_or,Bool.false_or,true_and,decide_eq_true_eq,beq_iff_eq] at h
    obtain⟨hm,hf,⟨hw,w1,w2⟩,hb,a1,a2⟩:=h
    obtain⟨p,rfl⟩: ∃p,ws=[p]:=List.length_eq_one_iff.1 (by omega)
    rw [a4L hm,hb]
    exact .leaf (.near hf (List.all_eq_true.1 hw p (.head _)) a1 a2)
   by_cases k6:k=6
   ·subst k6
    change (((true||f==[])&&((false||((ws.length:Nat):Int)==0)&&((true||((a==0)&&(b==0)))&&(false||((ks.length:Nat):Int)==0))))&&(D0 f&&((decide (0≤a)&&decide (a≤999999999))&&(decide (a≤b)&&decide (b≤999999999)))))=true at h
    simp only [l8,Bool.true_or,Bool.false_or,true_and,decide_eq_true_eq,beq_iff_eq] at h
    obtain⟨⟨hn,hm⟩,hf,⟨a1,a2⟩,b1,b2⟩:=h
    rw [a4L hm,a4L hn]
    exact .leaf (.range hf a1 a2 b1 b2)
   by_cases k7:k=7
   ·subst k7
    change (((false||f==[])&&((false||((ws.length:Nat):Int)==0)&&((false||((a==0)&&(b==0)))&&(true||((ks.length:Nat):Int)==0))))&&(decide (2≤((ks.length:Nat):Int))&&decide (((ks.length:Nat):Int)≤4)))=true at h
    simp only [l8,Bool.true_or,Bool.false_or,and_true,decide_eq_true_eq,beq_iff_eq] at h
    obtain⟨⟨hf,hn,ha,hb⟩,m1,m2⟩:=h
    rw [a4L hn,ha,hb,hf]
    exact .and (by omega) (by omega) hkids
   by_cases k8:k=8
   ·subst k8
    change (((false||f==[])&&((false||((ws.length:Nat):Int)==0)&&((false||((a==0)&&(b==0)))&&(true||((ks.length:Nat):Int)==0))))&&(decide (2≤((ks.length:Nat):Int))&&decide (((ks.length:Nat):Int)≤4)))=true at h
    simp only [l8,Bool.true_or,Bool.false_or,and_true,decide_eq_true_eq,beq_iff_eq] at h
    obtain⟨⟨hf,hn,ha,hb⟩,m1,m2⟩:=h
    rw [a4L hn,ha,hb,hf]
    exact .or (by omega) (by omega) hkids
   by_cases k9:k=9
   ·subst k9
    change (((false||f==[])&&((false||((ws.length:Nat):Int)==0)&&((false||((a==0)&&(b==0)))&&(true||((ks.length:Nat):Int)==0))))&&(((ks.length:Nat):Int)==2))=true at h
    simp only [l8,Bool.true_or,Bool.false_or,and_true,beq_iff_eq] at h
    obtain⟨⟨hf,hn,ha,hb⟩,hm⟩:=h
    obtain⟨x,y,rfl⟩: ∃x y,ks=[x,y]:=by
     match ks,(show ks.length=2 by omega) with
     | [x,y],_=>exact⟨x,y,rfl⟩
    rw [a4L hn,ha,hb,hf]
    exact .less (hkids x (.head _)) (hkids y (.tail _ (.head _)))
   by_cases k10:k=10
   ·subst k10
    change (((false||f==[])&&((false||((ws.length:Nat):Int)==0)&&((true||((a==0)&&(b==0)))&&(true||((ks.length:Nat):Int)==0))))&&((((ks.length:Nat):Int)==1)&&((b==0)&&(decide (2≤a)&&decide (a≤9)))))=true at h
    simp only [l8,Bool.true_or,Bool.false_or,and_true,decide_eq_true_eq,beq_iff_eq] at h
    obtain⟨⟨hf,hn⟩,hm,hb,a1,a2⟩:=h
    obtain⟨x,rfl⟩: ∃x,ks=[x]:=List.length_eq_one_iff.1 (by omega)
    rw [a4L hn,hb,hf]
    exact .times a1 a2 (hkids x (.head _))
   rw [if_neg k1,if_neg k2,if_neg k3,if_neg k4,if_neg k6,if_neg (fun h=>h.elim k7 k8),if_neg k9,if_neg k10] at h
   cases h
end Go.Fk
