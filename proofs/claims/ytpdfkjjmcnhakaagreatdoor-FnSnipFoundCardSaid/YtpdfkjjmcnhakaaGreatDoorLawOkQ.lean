/-
  Which questions are ok, of all of them. Of no program.
-/
import Derived.Test.YtpdfkjjmcnhakaaGreatDoorLawQs
set_option linter.unusedVariables false
namespace Go.Fk
open Go
def R4 (x a b:Int):Bool:=decide (a≤x)&&decide (x≤b)
def a9c (k:Int)(w:l3):Bool:=if k==5 then b1n w&& !A1 w else A1 w
def b53 (has:Bool)(g:a0V)(q:B5):Bool:=
 (has&&((g.field_== !(q.Field==[]))&&(!g.field_||A1 q.Field)))&&((R4 q.Words.length g.leastWords_ g.mostWords_&&(R4 q.Kids.length g.leastKids_ g.mostKids_&&R4 q.From g.low_ g.high_))&&((if g.ranged_ then R4 q.To q.From 999999999 else q.To==0)&&q.Words.all (a9c q.Kind)))
def b55 (q:B5):Bool:=b53 (E8 q.Kind) (s4 q.Kind) q
def okQ:Nat→B5→Bool
 | 0,_=>false
 | d+1,q=>b55 q&&q.Kids.all (okQ d)
theorem a8o: ∀(d F:Nat) (q:B5),d<F→d≤1000→D6 F q (d:Int)=some (okQ d q)
 | 0,0,_,h,_=>by omega
 | 0,F+1,q,_,_=>by
  rw [D6]
  dsimp only
  rw [b8 (show ((0:Nat):Int)<1 by omega)]
  cases E8 q.Kind<;>rfl
 | d+1,0,_,h,_=>by omega
 | d+1,F+1,q,h,h2=>by
  rw [D6]
  dsimp only
  rw [c6 (show ¬((d+1:Nat):Int)<1 by omega),i9]
  show _=some (b53 (E8 q.Kind) (s4 q.Kind) q&&q.Kids.all (okQ d))
  generalize E8 q.Kind=hb
  generalize s4 q.Kind=g
  unfold b53
  have e1:(cond (!hb) (some true) (cond (!(g.field_==(!(q.Field==[])))) (some true) (cond g.field_ ((C0 F q.Field).bind fun r50=>(some (!r50))) (some false))))=some (!(hb&&((g.field_== !(q.Field==[]))&&(!g.field_||A1 q.Field)))):=by
   rw [F3]
   cases hb
   ·rfl
   ·cases hx:(g.field_== !(q.Field==[]))
    ·rfl
    ·cases g.field_
     ·rfl
     ·cases A1 q.Field<;>rfl
  rw [e1,a8]
  cases hb&&((g.field_== !(q.Field==[]))&&(!g.field_||A1 q.Field)) with
  | false=>rfl
  | true=>
  rw [n5,i9,n8]
  have e2:((u5 F (q.Words.length:Int) (g.leastWords_) (g.mostWords_)).bind fun r70=>(cond (!r70) (some true) ((u5 F (q.Kids.length:Int) (g.leastKids_) (g.mostKids_)).bind fun r80=>(cond (!r80) (some true) ((u5 F q.From (g.low_) (g.high_)).bind fun r90=>(some (!r90)))))))=some (!(R4 q.Words.length g.leastWords_ g.mostWords_&&(R4 q.Kids.length g.leastKids_ g.mostKids_&&R4 q.From g.low_ g.high_))):=by
   rw [F9,a8,F9,a8,F9,a8]
   show cond (!R4 q.Words.length g.leastWords_ g.mostWords_) _ (cond (!R4 q.Kids.length g.leastKids_ g.mostKids_) _ (some (!R4 q.From g.low_ g.high_)))=_
   cases R4 q.Words.length g.leastWords_ g.mostWords_
   ·rfl
   ·cases R4 q.Kids.length g.leastKids_ g.mostKids_<;>rfl
  rw [e2,a8]
  cases R4 q.Words.length g.leastWords_ g.mostWords_&&(R4 q.Kids.length g.leastKids_ g.mostKids_&&R4 q.From g.low_ g.high_) with
  | false=>rfl
  | true=>
  rw [n5,i9,n8]
  have e3:(cond g.ranged_ ((u5 F q.To q.From 999999999).bind fun r110=>(cond (!r110) (some true) (cond (!g.ranged_) (some (!(q.To==0))) (some false)))) (cond (!g.ranged_) (some (!(q.To==0))) (some false)))=some (!(if g.ranged_ then R4 q.To q.From 999999999 else q.To==0)):=by
   rw [F9,a8]
   show cond g.ranged_ (cond (!R4 q.To q.From 999999999) _ _) _=_
   cases g.ranged_
   ·rfl
   ·cases R4 q.To q.From 999999999<;>rfl
  rw [e3,a8]
  cases (if g.ranged_ then R4 q.To q.From 999999999 else q.To==0) with
  | false=>rfl
  | true=>
  rw [n5,i9,n8,a4I (p:=a9c q.Kind) (xs:=q.Words) (e:=false) (fun i x hx=>?_) q.Words.length 0 (by omega),List.drop_zero]
  ·cases q.Words.all (a9c q.Kind) with
   | false=>rfl
   | true=>
    rw [if_pos rfl,a8,n8]
    show (((y6 _ _ 0 ()).bind _).bind _)=_
    rw [a4I (p:=okQ d) (xs:=q.Kids) (e:=false) (fun i x hx=>?_) q.Kids.length 0 (by omega),List.drop_zero]
    ·cases q.Kids.all (okQ d)<;>rfl
    ·rw [l8,hx,a8,show y8 (((d+1:Nat):Int)-1)=(d:Int) from by rw [B9 ⟨by omega,by omega⟩];omega,a8o d F x (by omega) (by omega),a8]
     cases okQ d x<;>rfl
  ·rw [l8,hx,a8,F3,a38]
   unfold a9c
   cases q.Kind==5
   ·cases A1 x<;>rfl
   ·cases b1n x
    ·rfl
    ·cases A1 x<;>rfl
theorem b1y (F:Nat)(q:B5)(hF:10<F):N9 F q=some (okQ 4 q):=by
 unfold N9
 have:=a8o 4 F q (by omega) (by omega)
 rw [show ((4:Nat):Int)=4 from rfl] at this
 rw [this];rfl
def b3D (k:Int)(wf fe W:Bool)(n m a b:Int):Bool:=
 let g:=s4 k
 (E8 k&&((g.field_== !fe)&&(!g.field_||wf)))&&((R4 n g.leastWords_ g.mostWords_&&(R4 m g.leastKids_ g.mostKids_&&R4 a g.low_ g.high_))&&((if g.ranged_ then R4 b a 999999999 else b==0)&&W))
def S5 (fe:Bool)(n m a b:Int)(p q r t:Bool):Bool:=(p||fe)&&((q||n==0)&&((r||((a==0)&&(b==0)))&&(t||m==0)))
def b6w (k:Int)(wf fe W:Bool)(n m a b:Int):Bool:=
 if k=1 then S5 fe n m a b false false false false
 else if k=2 then S5 fe n m a b true true false false&&(wf&&(W&&R4 n 1 1))
 else if k=3 then S5 fe n m a b true true true false&&(wf&&((W&&R4 n 1 4)&&(decide (1<n)&&((b==0)&&R4 a 0 5))))
 else if k=4 then S5 fe n m a b true true true false&&(wf&&((W&&R4 n 1 1)&&((b==0)&&R4 a 1 2)))
 else if k=6 then S5 fe n m a b true false true false&&(wf&&(R4 a 0 999999999&&R4 b a 999999999))
 else if k=7∨k=8 then S5 fe n m a b false false false true&&R4 m 2 4
 else if k=9 then S5 fe n m a b false false false true&&(m==2)
 else if k=10 then S5 fe n m a b false false true true&&((m==1)&&((b==0)&&R4 a 2 9))
 else false
theorem b7k {k:Int}(k1:k≠1)(k2:k≠2)(k3:k≠3)(k4:k≠4)(k5:k≠5)(k6:k≠6)(k7:k≠7)(k8:k≠8)(k9:k≠9)(k10:k≠10):E8 k=false:=by
 unfold E8 a14
 rw [List.find?_eq_none.2 fun p hp=>?_]
 ·rfl
 ·unfold P2 at hp
  simp only [List.mem_cons,List.not_mem_nil,or_false] at hp
  have h:p.1≠k:=by
   rcases hp with rfl | rfl | rfl | rfl | rfl | rfl | rfl | rfl | rfl | rfl
   ·exact Ne.symm k1
   ·exact Ne.symm k2
   ·exact Ne.symm k3
   ·exact Ne.symm k4
   ·exact Ne.symm k5
   ·exact Ne.symm k6
   ·exact Ne.symm k7
   ·exact Ne.symm k8
   ·exact Ne.symm k9
   ·exact Ne.symm k10
  rw [beq_eq_false_iff_ne.2 h]
  decide
theorem b4M {k:Int}(h5:k≠5){wf fe W:Bool}{n m a b:Int}(hn:0≤n)(hm:0≤m)(h1:wf=true→fe=false)(h2:n=0→W=true):b3D k wf fe W n m a b=b6w k wf fe W n m a b:=by
 by_cases k1:k=1
 ·subst k1
  show ((true&&((false== !fe)&&(!false||wf)))&&((R4 n 0 0&&(R4 m 0 0&&R4 a 0 0))&&((b==0)&&W)))=(S5 fe n m a b false false false false)
  unfold R4 S5
  rw [Bool.eq_iff_iff]
  cases wf<;>cases fe<;>cases W<;>simp at h1 h2 ⊢ <;>omega
 by_cases k2:k=2
 ·subst k2
  show ((true&&((true== !fe)&&(!true||wf)))&&((R4 n 1 1&&(R4 m 0 0&&R4 a 0 0))&&((b==0)&&W)))=(S5 fe n m a b true true false false&&(wf&&(W&&R4 n 1 1)))
  unfold R4 S5
  rw [Bool.eq_iff_iff]
  cases wf<;>cases fe<;>cases W<;>simp at h1 h2 ⊢ <;>omega
 by_cases k3:k=3
 ·subst k3
  show ((true&&((true== !fe)&&(!true||wf)))&&((R4 n 2 4&&(R4 m 0 0&&R4 a 0 5))&&((b==0)&&W)))=(S5 fe n m a b true true true false&&(wf&&((W&&R4 n 1 4)&&(decide (1<n)&&((b==0)&&R4 a 0 5)))))
  unfold R4 S5
  rw [Bool.eq_iff_iff]
  cases wf<;>cases fe<;>cases W<;>simp at h1 h2 ⊢ <;>omega
 by_cases k4:k=4
 ·subst k4
  show ((true&&((true== !fe)&&(!true||wf)))&&((R4 n 1 1&&(R4 m 0 0&&R4 a 1 2))&&((b==0)&&W)))=(S5 fe n m a b true true true false&&(wf&&((W&&R4 n 1 1)&&((b==0)&&R4 a 1 2))))
  unfold R4 S5
  rw [Bool.eq_iff_iff]
  cases wf<;>cases fe<;>cases W<;>simp at h1 h2 ⊢ <;>omega
 by_cases k6:k=6
 ·subst k6
  show ((true&&((true== !fe)&&(!true||wf)))&&((R4 n 0 0&&(R4 m 0 0&&R4 a 0 999999999))&&((R4 b a 999999999)&&W)))=(S5 fe n m a b true false true false&&(wf&&(R4 a 0 999999999&&R4 b a 999999999)))
  unfold R4 S5
  rw [Bool.eq_iff_iff]
  cases wf<;>cases fe<;>cases W<;>simp at h1 h2 ⊢ <;>omega
 by_cases k7:k=7
 ·subst k7
  show ((true&&((false== !fe)&&(!false||wf)))&&((R4 n 0 0&&(R4 m 2 4&&R4 a 0 0))&&((b==0)&&W)))=(S5 fe n m a b false false false true&&R4 m 2 4)
  unfold R4 S5
  rw [Bool.eq_iff_iff]
  cases wf<;>cases fe<;>cases W<;>simp at h1 h2 ⊢ <;>omega
 by_cases k8:k=8
 ·subst k8
  show ((true&&((false== !fe)&&(!false||wf)))&&((R4 n 0 0&&(R4 m 2 4&&R4 a 0 0))&&((b==0)&&W)))=(S5 fe n m a b false false false true&&R4 m 2 4)
  unfold R4 S5
  rw [Bool.eq_iff_iff]
  cases wf<;>cases fe<;>cases W<;>simp at h1 h2 ⊢ <;>omega
 by_cases k9:k=9
 ·subst k9
  show ((true&&((false== !fe)&&(!false||wf)))&&((R4 n 0 0&&(R4 m 2 2&&R4 a 0 0))&&((b==0)&&W)))=(S5 fe n m a b false false false true&&(m==2))
  unfold R4 S5
  rw [Bool.eq_iff_iff]
  cases wf<;>cases fe<;>cases W<;>simp at h1 h2 ⊢ <;>omega
 by_cases k10:k=10
 ·subst k10
  show ((true&&((false== !fe)&&(!false||wf)))&&((R4 n 0 0&&(R4 m 1 1&&R4 a 2 9))&&((b==0)&&W)))=(S5 fe n m a b false false true true&&((m==1)&&((b==0)&&R4 a 2 9)))
  unfold R4 S5
  rw [Bool.eq_iff_iff]
  cases wf<;>cases fe<;>cases W<;>simp at h1 h2 ⊢ <;>omega
 have e:b3D k wf fe W n m a b=false:=by
  have h:E8 k=false:=b7k k1 k2 k3 k4 h5 k6 k7 k8 k9 k10
  unfold b3D
  rw [h];rfl
 rw [e]
 unfold b6w
 rw [if_neg k1,if_neg k2,if_neg k3,if_neg k4,if_neg k6,if_neg (fun h=>h.elim k7 k8),if_neg k9,if_neg k10]
theorem a1X {α:Type}{l:List α}(h:((l.length:Nat):Int)=0):l=[]:=List.length_eq_zero_iff.1 (by omega)
theorem b3v: ∀(d:Nat) (q:B5),okQ d q=true→R2 d q
 | 0,q,h=>by cases h
 | d+1,q,h=>by
  change (b55 q&&q.Kids.all (okQ d))=true at h
  rw [l5] at h
  obtain⟨h,hk⟩:=h
  have hkids: ∀k∈q.Kids,R2 d k:=fun k hm=>b3v d k (List.all_eq_true.1 hk k hm)
  obtain⟨k,f,ws,a,b,ks⟩:=q
  by_cases h5:k=5
  ·subst h5
   change ((true&&((true== !(f==[]))&&(!true||A1 f)))&&((R4 ws.length 1 1&&(R4 ks.length 0 0&&R4 a 0 0))&&((b==0)&&ws.all (a9c 5))))=true at h
   unfold R4 at h
   simp only [l5,decide_eq_true_eq,beq_iff_eq,n8,n5,Bool.false_or] at h
   obtain⟨⟨_,hf⟩,⟨⟨w1,w2⟩,⟨m1,m2⟩,a1,a2⟩,hb,hw⟩:=h
   obtain⟨p,rfl⟩: ∃p,ws=[p]:=List.length_eq_one_iff.1 (by omega)
   have:ks=[]:=a1X (by omega)
   subst this
   have:a=0:=by omega
   subst this
   subst hb
   have hp:=List.all_eq_true.1 hw p (.head _)
   change (b1n p&& !A1 p)=true at hp
   simp only [l5,Bool.not_eq_true'] at hp
   exact .leaf (.glob hf hp.1 hp.2)
  ·have e:b55 ⟨k,f,ws,a,b,ks⟩=b3D k (A1 f) (f==[]) (ws.all A1) ws.length ks.length a b:=by
    have h:ws.all (a9c k)=ws.all A1:=by
     congr 1
     funext w
     unfold a9c
     rw [beq_eq_false_iff_ne.2 h5];rfl
    rw [←h];rfl
   rw [e,b4M h5 (by omega) (by omega) a3r (fun h=>by rw [List.length_eq_zero_iff.1 (by omega :ws.length=0)];rfl)] at h
   unfold b6w S5 R4 at h
   by_cases k1:k=1
   ·subst k1
    change ((false||f==[])&&((false||((ws.length:Nat):Int)==0)&&((false||((a==0)&&(b==0)))&&(false||((ks.length:Nat):Int)==0))))=true at h
    simp only [l5,Bool.false_or,beq_iff_eq] at h
    obtain⟨hf,hn,⟨ha,hb⟩,hm⟩:=h
    rw [a1X hn,a1X hm,ha,hb,hf]
    exact .leaf .all
   by_cases k2:k=2
   ·subst k2
    change (((true||f==[])&&((true||((ws.length:Nat):Int)==0)&&((false||((a==0)&&(b==0)))&&(false||((ks.length:Nat):Int)==0))))&&(A1 f&&(ws.all A1&&(decide (1≤((ws.length:Nat):Int))&&decide (((ws.length:Nat):Int)≤1)))))=true at h
    simp only [l5,Bool.true_or,Bool.false_or,true_and,decide_eq_true_eq,beq_iff_eq] at h
    obtain⟨⟨⟨ha,hb⟩,hm⟩,hf,hw,w1,w2⟩:=h
    obtain⟨p,rfl⟩: ∃p,ws=[p]:=List.length_eq_one_iff.1 (by omega)
    rw [a1X hm,ha,hb]
    exact .leaf (.term hf (List.all_eq_true.1 hw p (.head _)))
   by_cases k3:k=3
   ·subst k3
    change (((true||f==[])&&((true||((ws.length:Nat):Int)==0)&&((true||((a==0)&&(b==0)))&&(false||((ks.length:Nat):Int)==0))))&&(A1 f&&((ws.all A1&&(decide (1≤((ws.length:Nat):Int))&&decide (((ws.length:Nat):Int)≤4)))&&(decide (1<((ws.length:Nat):Int))&&((b==0)&&(decide (0≤a)&&decide (a≤5)))))))=true at h
    simp only [l5,Bool.true_or,Bool.false_or,true_and,decide_eq_true_eq,beq_iff_eq] at h
    obtain⟨hm,hf,⟨hw,w1,w2⟩,w3,hb,a1,a2⟩:=h
    rw [a1X hm,hb]
    exact .leaf (.phrase hf (by omega) (by omega) (fun w hm=>List.all_eq_true.1 hw w hm) a1 a2)
   by_cases k4:k=4
   ·subst k4
    change (((true||f==[])&&((true||((ws.length:Nat):Int)==0)&&((true||((a==0)&&(b==0)))&&(false||((ks.length:Nat):Int)==0))))&&(A1 f&&((ws.all A1&&(decide (1≤((ws.length:Nat):Int))&&decide (((ws.length:Nat):Int)≤1)))&&((b==0)&&(decide (1≤a)&&decide (a≤2))))))=true at h
    simp only [l5,Bool.true_or,Bool.false_or,true_and,decide_eq_true_eq,beq_iff_eq] at h
    obtain⟨hm,hf,⟨hw,w1,w2⟩,hb,a1,a2⟩:=h
    obtain⟨p,rfl⟩: ∃p,ws=[p]:=List.length_eq_one_iff.1 (by omega)
    rw [a1X hm,hb]
    exact .leaf (.near hf (List.all_eq_true.1 hw p (.head _)) a1 a2)
   by_cases k6:k=6
   ·subst k6
    change (((true||f==[])&&((false||((ws.length:Nat):Int)==0)&&((true||((a==0)&&(b==0)))&&(false||((ks.length:Nat):Int)==0))))&&(A1 f&&((decide (0≤a)&&decide (a≤999999999))&&(decide (a≤b)&&decide (b≤999999999)))))=true at h
    simp only [l5,Bool.true_or,Bool.false_or,true_and,decide_eq_true_eq,beq_iff_eq] at h
    obtain⟨⟨hn,hm⟩,hf,⟨a1,a2⟩,b1,b2⟩:=h
    rw [a1X hm,a1X hn]
    exact .leaf (.range hf a1 a2 b1 b2)
   by_cases k7:k=7
   ·subst k7
    change (((false||f==[])&&((false||((ws.length:Nat):Int)==0)&&((false||((a==0)&&(b==0)))&&(true||((ks.length:Nat):Int)==0))))&&(decide (2≤((ks.length:Nat):Int))&&decide (((ks.length:Nat):Int)≤4)))=true at h
    simp only [l5,Bool.true_or,Bool.false_or,and_true,decide_eq_true_eq,beq_iff_eq] at h
    obtain⟨⟨hf,hn,ha,hb⟩,m1,m2⟩:=h
    rw [a1X hn,ha,hb,hf]
    exact .and (by omega) (by omega) hkids
   by_cases k8:k=8
   ·subst k8
    change (((false||f==[])&&((false||((ws.length:Nat):Int)==0)&&((false||((a==0)&&(b==0)))&&(true||((ks.length:Nat):Int)==0))))&&(decide (2≤((ks.length:Nat):Int))&&decide (((ks.length:Nat):Int)≤4)))=true at h
    simp only [l5,Bool.true_or,Bool.false_or,and_true,decide_eq_true_eq,beq_iff_eq] at h
    obtain⟨⟨hf,hn,ha,hb⟩,m1,m2⟩:=h
    rw [a1X hn,ha,hb,hf]
    exact .or (by omega) (by omega) hkids
   by_cases k9:k=9
   ·subst k9
    change (((false||f==[])&&((false||((ws.length:Nat):Int)==0)&&((false||((a==0)&&(b==0)))&&(true||((ks.length:Nat):Int)==0))))&&(((ks.length:Nat):Int)==2))=true at h
    simp only [l5,Bool.true_or,Bool.false_or,and_true,beq_iff_eq] at h
    obtain⟨⟨hf,hn,ha,hb⟩,hm⟩:=h
    obtain⟨x,y,rfl⟩: ∃x y,ks=[x,y]:=by
     match ks,(show ks.length=2 by omega) with
     | [x,y],_=>exact⟨x,y,rfl⟩
    rw [a1X hn,ha,hb,hf]
    exact .less (hkids x (.head _)) (hkids y (.tail _ (.head _)))
   by_cases k10:k=10
   ·subst k10
    change (((false||f==[])&&((false||((ws.length:Nat):Int)==0)&&((true||((a==0)&&(b==0)))&&(true||((ks.length:Nat):Int)==0))))&&((((ks.length:Nat):Int)==1)&&((b==0)&&(decide (2≤a)&&decide (a≤9)))))=true at h
    simp only [l5,Bool.true_or,Bool.false_or,and_true,decide_eq_true_eq,beq_iff_eq] at h
    obtain⟨⟨hf,hn⟩,hm,hb,a1,a2⟩:=h
    obtain⟨x,rfl⟩: ∃x,ks=[x]:=List.length_eq_one_iff.1 (by omega)
    rw [a1X hn,hb,hf]
    exact .times a1 a2 (hkids x (.head _))
   rw [if_neg k1,if_neg k2,if_neg k3,if_neg k4,if_neg k6,if_neg (fun h=>h.elim k7 k8),if_neg k9,if_neg k10] at h
   cases h
end Go.Fk
