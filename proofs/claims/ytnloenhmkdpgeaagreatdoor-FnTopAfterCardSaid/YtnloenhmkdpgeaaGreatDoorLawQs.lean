import Derived.Test.YtnloenhmkdpgeaaGreatDoorLawSegs
import Derived.Test.YtnloenhmkdpgeaaGreatDoorLawBase
/-
  Patterns: the program and the reference match alike. Of no program's steps.
-/
namespace Go.Fk
open Go
def gB (b:UInt8):Bool:=a1E b||(b==42||b==63)
def a8c (p:r4):Bool:=p.all gB&&(decide (1≤(p.length:Int))&&decide ((p.length:Int)≤12))
theorem a8g (F:Nat)(p:r4):a2p F p=some (a8c p):=by
 unfold a2p a8c
 rw [a0s (p:=gB) (xs:=p) (f:=_) (fun i x hx=>?_) p.length 0 (by omega),List.drop_zero]
 ·cases p.all gB
  ·rfl
  ·simp only [if_true,a8,Sum.elim_inl,u5]
   rw [O8];rfl
 ·rw [n8,hx,a8,a5O,a8]
  unfold gB
  cases a1E x
  ·rw [Bool.not_false,j4,a8]
   cases x==42
   ·rw [Bool.not_false,j4,a8,a8]
    cases x==63<;>rfl
   ·rfl
  ·rfl
theorem b8S (x:UInt8):D0 [x]=a1E x:=by
 unfold D0
 simp
theorem b2i (F:Nat)(p:r4)(hF:p.length+50<F)(hl:p.length≤1000000):a2b F p=some (a8c p):=by
 unfold a2b a8c
 rw [a1R gB (xs:=p) F (by omega) (fun i x hx=>?_) ?_]
 ·cases p.all gB
  ·rfl
  ·simp only [if_true,a8,Sum.elim_inl,u5]
   rw [inS];rfl
 ·rw [c6 (by omega)];rfl
 ·have hi:=(i4.1 hx).1
  rw [b8 (by omega),j4,n8,hx,a8,y5 (by omega)]
  unfold gB
  cases h42:x==42
  ·rw [Bool.not_false,j4,a8]
   cases h63:x==63
   ·have hsub:a3C p (i:Int) ((i+1:Nat):Int)=some [x]:=by
     have hx':=(i4.1 hx).2
     unfold a3C
     rw [if_pos ⟨by omega,by omega,by omega⟩,Int.toNat_natCast,Int.toNat_natCast,List.drop_take,show i+1-i=1 by omega,List.drop_eq_getElem_cons hi,hx']
     rfl
    rw [Bool.not_false,j4,hsub,a8,a0x F [x] 1 (by simp) (by omega) (by omega),b8S,a8]
    cases a1E x<;>rfl
   ·cases a1E x<;>rfl
  ·cases a1E x<;>rfl
theorem X7 (c:UInt8)(s:r4):a3C (c::s) (1:Int) ((c::s).length:Int)=some s:=by
 unfold a3C
 rw [if_pos ⟨by omega,by simp only [s6];omega,by omega⟩]
 simp
theorem a83 (c:UInt8)(s:r4):v8 (c::s) (0:Int)=some c:=rfl
def a3S:r4→r4→Bool
 | [],s=>s==[]
 | c::p,[]=>if c==42 then a3S p [] else false
 | c::p,x::s=>if c==42 then a3S p (x::s)||a3S (c::p) s else if c==63 then a3S p s else if c==x then a3S p s else false
termination_by p s=>p.length+s.length
theorem b4Y: ∀(n:Nat) (p s:r4) (F:Nat),p.length+s.length≤n→n<F→Q8 F p s=some (a3S p s)
 | n,[],s,F,hn,hF=>by
  obtain⟨F,rfl⟩: ∃G,F=G+1:=⟨F-1,by omega⟩
  rw [a3S];rfl
 | 0,c::p,s,F,hn,hF=>by simp at hn
 | n+1,c::p,s,F,hn,hF=>by
  obtain⟨F,rfl⟩: ∃G,F=G+1:=⟨F-1,by omega⟩
  rw [Q8]
  dsimp only
  rw [show ((c::p:r4)==([]:r4))=false from rfl,i6,a83,a8]
  simp only [s6] at hn
  have ih:=fun p s h=>b4Y n p s F h (by omega)
  cases s with
  | nil=>
   rw [a3S]
   cases h42:c==42
   ·rfl
   ·rw [j4,X7,a8,ih p [] (by simpa using hn),a8,if_pos rfl]
    cases a3S p []<;>rfl
  | cons x s=>
   simp only [s6] at hn
   rw [a3S]
   cases h42:c==42
   ·rw [i6,show ((x::s:r4)==([]:r4))=false from rfl,i6,if_neg (by simp)]
    rw [a8]
    cases h63:c==63
    ·rw [i6,if_neg (by simp),a8,a83,a8]
     cases hx:c==x
     ·rfl
     ·rw [j4,X7,a8,X7,a8,ih p s (by omega),a8];rfl
    ·rw [j4,X7,a8,X7,a8,ih p s (by omega),a8];rfl
   ·rw [j4,X7,a8,ih p (x::s) (by simp only [s6];omega),a8,if_pos rfl]
    cases a3S p (x::s)
    ·rw [i6,show ((x::s:r4)==([]:r4))=false from rfl,Bool.not_false,j4,X7,a8,ih (c::p) s (by simp only [s6];omega)]
     rfl
    ·rfl
theorem b5k: ∀(n:Nat) (p s:r4) (F:Nat),p.length+s.length≤n→n<F→S8 F p s=some (a3S p s)
 | n,[],s,F,hn,hF=>by
  obtain⟨F,rfl⟩: ∃G,F=G+1:=⟨F-1,by omega⟩
  rw [a3S];rfl
 | 0,c::p,s,F,hn,hF=>by simp at hn
 | n+1,c::p,s,F,hn,hF=>by
  obtain⟨F,rfl⟩: ∃G,F=G+1:=⟨F-1,by omega⟩
  rw [S8]
  dsimp only
  rw [show ((c::p:r4)==([]:r4))=false from rfl,i6,a83,a8]
  simp only [s6] at hn
  have ih:=fun p s h=>b5k n p s F h (by omega)
  cases s with
  | nil=>
   rw [a3S]
   cases h42:c==42
   ·rfl
   ·rw [j4,X7,a8,ih p [] (by simpa using hn),a8,if_pos rfl]
    cases a3S p []<;>rfl
  | cons x s=>
   simp only [s6] at hn
   rw [a3S]
   cases h42:c==42
   ·rw [i6,show ((x::s:r4)==([]:r4))=false from rfl,Bool.not_false,j4,if_neg (by simp)]
    rw [a8]
    cases h63:c==63
    ·rw [i6,if_neg (by simp),a8,a83,a8]
     cases hx:c==x
     ·rfl
     ·rw [j4,X7,a8,X7,a8,ih p s (by omega),a8];rfl
    ·rw [j4,X7,a8,X7,a8,ih p s (by omega),a8];rfl
   ·rw [j4,X7,a8,ih p (x::s) (by simp only [s6];omega),a8,if_pos rfl]
    cases a3S p (x::s)
    ·rw [i6,show ((x::s:r4)==([]:r4))=false from rfl,Bool.not_false,j4,X7,a8,ih (c::p) s (by simp only [s6];omega)]
     rfl
    ·rfl
end Go.Fk
set_option linter.unusedVariables false
namespace Go.Fk
open Go
inductive a3D:q7→Prop
 | all:a3D ⟨1,[],[],0,0,[]⟩
 | term {f w:r4}:D0 f=true→D0 w=true→a3D ⟨2,f,[w],0,0,[]⟩
 | phrase {f:r4} {ws:List r4} {n:Int}:D0 f=true→2≤ws.length→ws.length≤4→(∀w∈ws,D0 w=true)→0≤n→n≤5→a3D ⟨3,f,ws,n,0,[]⟩
 | near {f w:r4} {n:Int}:D0 f=true→D0 w=true→1≤n→n≤2→a3D ⟨4,f,[w],n,0,[]⟩
 | glob {f p:r4}:D0 f=true→a8c p=true→D0 p=false→a3D ⟨5,f,[p],0,0,[]⟩
 | range {f:r4} {a b:Int}:D0 f=true→0≤a→a≤999999999→a≤b→b≤999999999→a3D ⟨6,f,[],a,b,[]⟩
inductive I3:Nat→q7→Prop
 | leaf {d:Nat} {q:q7}:a3D q→I3 (d+1) q
 | and {d:Nat} {ks:List q7}:2≤ks.length→ks.length≤4→(∀k∈ks,I3 d k)→I3 (d+1) ⟨7,[],[],0,0,ks⟩
 | or {d:Nat} {ks:List q7}:2≤ks.length→ks.length≤4→(∀k∈ks,I3 d k)→I3 (d+1) ⟨8,[],[],0,0,ks⟩
 | less {d:Nat} {a b:q7}:I3 d a→I3 d b→I3 (d+1) ⟨9,[],[],0,0,[a,b]⟩
 | times {d:Nat} {n:Int} {k:q7}:2≤n→n≤9→I3 d k→I3 (d+1) ⟨10,[],[],n,0,[k]⟩
theorem I3.more: ∀{d e:Nat} {q:q7},I3 d q→d≤e→I3 e q
 | 0,_,_,h,_=>by cases h
 | d+1,0,_,_,he=>by omega
 | d+1,e+1,q,h,he=>by
  cases h with
  | leaf h=>exact .leaf h
  | and h1 h2 h3=>exact .and h1 h2 fun k hk=>I3.more (h3 k hk) (by omega)
  | or h1 h2 h3=>exact .or h1 h2 fun k hk=>I3.more (h3 k hk) (by omega)
  | less h1 h2=>exact .less (h1.more (by omega)) (h2.more (by omega))
  | times h1 h2 h3=>exact .times h1 h2 (h3.more (by omega))
theorem a5w {s:r4}(h:D0 s=true):(s==([]:r4))=false:=by
 cases s with
 | nil=>exact absurd h (by decide)
 | cons x r=>rfl
theorem Q1 {a b:Int}(h:a≤b):decide (a≤b)=true:=b8 h
theorem c13 (F:Nat)(deep:Nat){q:q7}(h:a3D q)(hd:1≤deep):J0 (F+1) q (deep:Int)=some true:=by
 rw [J0]
 dsimp only
 cases h with
 | all=>
  rw [show M1 1=true from rfl,show A7 1=⟨false,0,0,0,0,false,0,0⟩ from rfl,c6 (show ¬((deep:Int)<1) by omega)]
  rfl
 | @term f w hf hw=>
  rw [show M1 2=true from rfl,show A7 2=⟨true,1,1,0,0,false,0,0⟩ from rfl,c6 (show ¬((deep:Int)<1) by omega),a5w hf,O0,hf]
  simp only [O8,a8,D1,s6,List.length_nil,n8,List.getElem?_cons_zero,O0,hw]
  rfl
 | @phrase f ws n hf h1 h2 hw h3 h4=>
  rw [show M1 3=true from rfl,show A7 3=⟨true,2,4,0,5,false,0,0⟩ from rfl,c6 (show ¬((deep:Int)<1) by omega),a5w hf,O0,hf]
  simp only [O8,a8]
  rw [Q1 (show (2:Int)≤ws.length by omega),Q1 (show (ws.length:Int)≤4 by omega),Q1 h3,Q1 h4,a0s (p:=fun _=>true) (xs:=ws) (fun i x hx=>?_) ws.length 0 (by omega)]
  ·simp;rfl
  ·rw [n8,hx,a8,O0,hw x (n5 hx)];rfl
 | @near f w n hf hw h1 h2=>
  rw [show M1 4=true from rfl,show A7 4=⟨true,1,1,1,2,false,0,0⟩ from rfl,c6 (show ¬((deep:Int)<1) by omega),a5w hf,O0,hf]
  simp only [O8,a8,D1,s6,List.length_nil,n8,List.getElem?_cons_zero,O0,hw,Q1 h1,Q1 h2]
  rfl
 | @glob f p hf hp hn=>
  rw [show M1 5=true from rfl,show A7 5=⟨true,1,1,0,0,false,0,0⟩ from rfl,c6 (show ¬((deep:Int)<1) by omega),a5w hf,O0,hf]
  simp only [O8,a8,D1,s6,List.length_nil,n8,List.getElem?_cons_zero,O0,a8g,hp,hn]
  rfl
 | @range f a b hf h1 h2 h3 h4=>
  rw [show M1 6=true from rfl,show A7 6=⟨true,0,0,0,999999999,true,0,0⟩ from rfl,c6 (show ¬((deep:Int)<1) by omega),a5w hf,O0,hf]
  simp only [O8,a8,Q1 h1,Q1 h2,Q1 h3,Q1 h4]
  rfl
theorem b68: ∀{d:Nat} {q:q7},I3 d q→∀(F deep:Nat),d≤deep→deep≤1000→d<F→J0 F q (deep:Int)=some true
 | 0,_,h,_,_,_,_,_=>by cases h
 | d+1,q,h,F,deep,h1,h2,hF=>by
  obtain⟨F,rfl⟩: ∃G,F=G+1:=⟨F-1,by omega⟩
  have kid: ∀k,I3 d k→J0 F k (z8 ((deep:Int)-1))=some true:=fun k hk=>by
   rw [a0y (by omega) (by omega)]
   exact b68 hk F (deep-1) (by omega) (by omega) (by omega)
  cases h with
  | leaf h=>exact c13 F deep h (by omega)
  | @and _ ks h3 h4 h5=>
   rw [J0]
   dsimp only
   rw [show M1 7=true from rfl,show A7 7=⟨false,0,0,0,0,false,2,4⟩ from rfl,c6 (show ¬((deep:Int)<1) by omega)]
   simp only [O8,a8]
   rw [Q1 (show (2:Int)≤ks.length by omega),Q1 (show (ks.length:Int)≤4 by omega),a0s (p:=fun _=>true) (xs:=ks) (fun i x hx=>?_) ks.length 0 (by omega)]
   ·simp [D1]
   ·rw [n8,hx,a8,kid x (h5 x (n5 hx))];rfl
  | @or _ ks h3 h4 h5=>
   rw [J0]
   dsimp only
   rw [show M1 8=true from rfl,show A7 8=⟨false,0,0,0,0,false,2,4⟩ from rfl,c6 (show ¬((deep:Int)<1) by omega)]
   simp only [O8,a8]
   rw [Q1 (show (2:Int)≤ks.length by omega),Q1 (show (ks.length:Int)≤4 by omega),a0s (p:=fun _=>true) (xs:=ks) (fun i x hx=>?_) ks.length 0 (by omega)]
   ·simp [D1]
   ·rw [n8,hx,a8,kid x (h5 x (n5 hx))];rfl
  | @less _ a b h3 h4=>
   rw [J0]
   dsimp only
   rw [show M1 9=true from rfl,show A7 9=⟨false,0,0,0,0,false,2,2⟩ from rfl,c6 (show ¬((deep:Int)<1) by omega)]
   simp only [O8,a8]
   rw [a0s (p:=fun _=>true) (xs:=[a,b]) (fun i x hx=>?_) [a,b].length 0 (by omega)]
   ·rfl
   ·have hx':I3 d x:=by
     have:=n5 hx
     simp only [List.mem_cons,List.not_mem_nil,or_false] at this
     rcases this with rfl | rfl
     ·exact h3
     ·exact h4
    rw [n8,hx,a8,kid x hx'];rfl
  | @times _ n k h3 h4 h5=>
   rw [J0]
   dsimp only
   rw [show M1 10=true from rfl,show A7 10=⟨false,0,0,2,9,false,1,1⟩ from rfl,c6 (show ¬((deep:Int)<1) by omega)]
   simp only [O8,a8,Q1 h3,Q1 h4]
   rw [a0s (p:=fun _=>true) (xs:=[k]) (fun i x hx=>?_) [k].length 0 (by omega)]
   ·rfl
   ·have hx':I3 d x:=by
     have:=n5 hx
     simp only [List.mem_cons,List.not_mem_nil,or_false] at this
     rw [this];exact h5
    rw [n8,hx,a8,kid x hx'];rfl
theorem a65 (F:Nat){d:Nat}{q:q7}(h:I3 d q)(hd:d≤4)(hF:10<F):N4 F q=some true:=by
 unfold N4
 have:=b68 h F 4 hd (by omega) (by omega)
 rw [show ((4:Nat):Int)=4 from rfl] at this
 rw [this];rfl
theorem b6i (F:Nat)(ws:List r4)(most:Int)(hw: ∀w∈ws,D0 w=true)(hl:ws.length≤100)(hF:1000<F):R6 F ws most=some (decide (1≤(ws.length:Int))&&decide ((ws.length:Int)≤most)):=by
 unfold R6
 rw [a1R (fun _=>true) (xs:=ws) F (by omega) (fun i x hx=>?_) ?_]
 ·simp only [List.all_eq_true,implies_true,if_true,a8,Sum.elim_inl]
  rw [inS];rfl
 ·rw [c6 (by omega)];rfl
 ·have hi:=(i4.1 hx).1
  have hwx:=hw x (n5 hx)
  rw [b8 (by omega),j4,n8,hx,a8,a0x F x 12 (O4 hwx) (by omega) (by omega),hwx,y5 (by omega)];rfl
theorem c3l (F:Nat){q:q7}(h:a3D q)(hF:1000<F):P3 F q=some true:=by
 have sw: ∀s:r4,D0 s=true→E5 F s=some true:=fun s hs=>by rw [a0x F s 12 (O4 hs) (by omega) (by omega),hs]
 unfold P3
 cases h with
 | all=>rfl
 | @term f w hf hw=>
  simp only [F2,sw f hf,a8,b6i F [w] 1 (by simpa using hw) (by simp) hF]
  rfl
 | @phrase f ws n hf h1 h2 hw h3 h4=>
  simp only [F2,sw f hf,a8,b6i F ws 4 hw (by omega) hF,inS,Q1 h3,Q1 h4]
  rw [Q1 (show (1:Int)≤ws.length by omega),Q1 (show (ws.length:Int)≤4 by omega),b8 (show (1:Int)<ws.length by omega)]
  rfl
 | @near f w n hf hw h1 h2=>
  simp only [F2,sw f hf,a8,b6i F [w] 1 (by simpa using hw) (by simp) hF,inS,Q1 h1,Q1 h2]
  rfl
 | @glob f p hf hp hn=>
  have hpl:p.length≤12:=by
   simp only [a8c,q8,decide_eq_true_eq] at hp
   omega
  have g0:v8 [p] (0:Int)=some p:=rfl
  simp only [F2,sw f hf,a8,g0,b2i F p (by omega) (by omega),hp,a0x F p 12 hpl (by omega) (by omega),hn]
  rfl
 | @range f a b hf h1 h2 h3 h4=>
  simp only [F2,sw f hf,a8,inS,Q1 h1,Q1 h2,Q1 h3,Q1 h4]
  rfl
theorem b6C: ∀{d:Nat} {q:q7},I3 d q→∀(F deep:Nat),d≤deep→deep≤1000→d+2000<F→N8 F q (deep:Int)=some true
 | 0,_,h,_,_,_,_,_=>by cases h
 | d+1,q,h,F,deep,h1,h2,hF=>by
  obtain⟨F,rfl⟩: ∃G,F=G+1:=⟨F-1,by omega⟩
  have kid: ∀k,I3 d k→N8 F k (z8 ((deep:Int)-1))=some true:=fun k hk=>by
   rw [a0y (by omega) (by omega)]
   exact b6C hk F (deep-1) (by omega) (by omega) (by omega)
  have fin: ∀ks:List q7,ks.length≤4→(∀k∈ks,I3 d k)→P3 F q=some true→q.Kids=ks→N8 (F+1) q (deep:Int)=some true:=fun ks hl hk ho hq=>by
   rw [N8]
   dsimp only
   rw [beq_eq_false_iff_ne.2 (show (deep:Int)≠0 by omega),i6,ho,a8,l7,a8,i6,hq,a1R (fun _=>true) (xs:=ks) F (by omega) (fun i x hx=>?_) ?_]
   ·simp
   ·rw [c6 (by omega)];rfl
   ·have hi:=(i4.1 hx).1
    rw [b8 (by omega),j4,n8,hx,a8,kid x (hk x (n5 hx)),y5 (by omega)];rfl
  cases h with
  | leaf h=>
   have hk:q.Kids=[]:=by cases h<;>rfl
   exact fin [] (by simp) (fun k hk=>by cases hk) (c3l F h (by omega)) hk
  | @and _ ks h3 h4 h5=>
   refine fin ks h4 h5 ?_ rfl
   unfold P3
   simp only [F2,a8,inS]
   rw [Q1 (show (2:Int)≤ks.length by omega),Q1 (show (ks.length:Int)≤4 by omega)]
   rfl
  | @or _ ks h3 h4 h5=>
   refine fin ks h4 h5 ?_ rfl
   unfold P3
   simp only [F2,a8,inS]
   rw [Q1 (show (2:Int)≤ks.length by omega),Q1 (show (ks.length:Int)≤4 by omega)]
   rfl
  | @less _ a b h3 h4=>
   refine fin [a,b] (by simp) (fun k hk=>?_) rfl rfl
   simp only [List.mem_cons,List.not_mem_nil,or_false] at hk
   rcases hk with rfl | rfl
   ·exact h3
   ·exact h4
  | @times _ n k h3 h4 h5=>
   refine fin [k] (by simp) (fun k hk=>?_) ?_ rfl
   ·simp only [List.mem_cons,List.not_mem_nil,or_false] at hk
    rw [hk];exact h5
   ·unfold P3
    simp only [F2,a8,inS,Q1 h3,Q1 h4]
    rfl
theorem c4c (F:Nat){d:Nat}{q:q7}(h:I3 d q)(hd:d≤4)(hF:3000<F):Z1 F q=some true:=by
 unfold Z1
 have:=b6C h F 4 hd (by omega) (by omega)
 rw [show ((4:Nat):Int)=4 from rfl] at this
 rw [this];rfl
end Go.Fk
set_option linter.unusedVariables false
namespace Go.Fk
open Go
def okN (n:Int):Bool:=decide (0≤n)&&decide (n≤999999999)
def upQ (l:List Int):Bool:=a3x okN (fun a b=>decide (a<b)) l&&decide ((l.length:Int)≤60)
theorem c1W (F:Nat)(l:List Int)(hl:l.length<9000000000000000000):a5k F l=some (upQ l):=by
 unfold a5k upQ
 rw [a63 (ok:=okN) (lt:=fun a b=>decide (a<b)) (fun i x hx=>?_)]
 ·cases a3x okN (fun a b=>decide (a<b)) l<;>rfl
 ·have hi:=(i4.1 hx).1
  rw [n8,hx,a8,O8,a8]
  unfold okN
  cases (decide (0≤x)&&decide (x≤999999999)) with
  | false=>rfl
  | true=>
   rw [l7,i6,u5]
   by_cases h0:i=0
   ·subst h0;rfl
   ·rw [b8 (show (0:Int)<(i:Int) by omega),j4,a0y (by omega) (by omega),n8,j8 (show i-1<l.length by omega),a8,a8,c6 h0,Bool.false_or]
    show _=some (if decide (l[i-1]<x)=true then _ else _)
    rw [show decide (x≤l[i-1])= !decide (l[i-1]<x) by rw [b1g];simp]
    cases decide (l[i-1]<x)<;>rfl
theorem c2w (F:Nat)(l:List Int)(hl:l.length≤1000)(hF:2000<F):a5n F l=some (upQ l):=by
 unfold a5n upQ
 rw [a6a (xs:=l) (ok:=okN) (lt:=fun a b=>decide (a<b)) (fun i x hx=>?_) ?_ F (by omega)]
 ·cases a3x okN (fun a b=>decide (a<b)) l<;>rfl
 ·rw [c6 (by omega)];rfl
 ·have hi:=(i4.1 hx).1
  rw [b8 (by omega),j4,n8,hx,a8,inS,a8]
  unfold okN
  cases (decide (0≤x)&&decide (x≤999999999)) with
  | false=>rfl
  | true=>
   rw [l7,i6,u5,y5 (by omega)]
   by_cases h0:i=0
   ·subst h0;rfl
   ·rw [b8 (show (0:Int)<(i:Int) by omega),j4,a8,a0y (by omega) (by omega),n8,j8 (show i-1<l.length by omega),a8,a8,c6 h0,Bool.false_or]
    show _=some (if decide (l[i-1]<x)=true then _ else _)
    rw [show decide (x≤l[i-1])= !decide (l[i-1]<x) by rw [b1g];simp]
    cases decide (l[i-1]<x)<;>rfl
structure UpL (l:List Int):Prop where
 asc: ∀i j,(hi:i<l.length)→(hj:j<l.length)→i<j→l[i]<l[j]
 rng: ∀x∈l,0≤x∧x≤999999999
 few:l.length≤60
theorem c4p {l:List Int}(h:upQ l=true):UpL l:=by
 simp only [upQ,q8,decide_eq_true_eq] at h
 obtain⟨h1,h2⟩:=h
 obtain⟨k1,k2⟩:=a59 h1
 refine⟨fun i j hi hj hij=>?_,fun x hx=>by simpa [okN] using k1 x hx,by omega⟩
 obtain⟨d,rfl⟩: ∃d,j=i+1+d:=⟨j-(i+1),by omega⟩
 clear hij
 induction d with
 | zero=>simpa using k2 i hj
 | succ d ih=>
  have:=ih (by omega)
  have k:=k2 (i+1+d) hj
  simp only [decide_eq_true_eq] at k
  exact Int.lt_trans this k
def b18 (l:List Int)(n:Int):Option Int:=l.find? fun x=>decide (n≤x)
theorem c0I (F:Nat)(l:List Int)(n:Int)(hu:UpL l)(hF:100<F):
  ∃(k:Nat) (b:Bool),P8 F l n=some ((k:Int),b)∧k≤l.length∧(∀t,(h:t<l.length)→t<k→l[t]<n)∧∀t,(h:t<l.length)→k≤t→n≤l[t]:=by
 have hf:=hu.few
 unfold P8
 obtain⟨t,ht,k,rfl,h1,h2,h3⟩:=I7 (σ:=Int×Int) (τ:=Int) (f:=fun (s14:Int×Int)=>(cond (decide (s14.1<s14.2)) (Option.bind (nnI (z8 (s14.1+s14.2))) fun x29=>(Option.bind (b7E x29 (1:Int)) fun x32=>(Option.bind (v8 l x32) fun x35=>(Option.bind (a1i F x35 n) fun r45=>(cond r45 (some (.inl ((z8 (x32+(1:Int))),s14.2))) (some (.inl (s14.1,x32)))))))) (some (.inr s14.1))))
  (Post:=fun t=>∃k:Nat,t=(k:Int)∧k≤l.length∧(∀t,(h:t<l.length)→t<k→l[t]<n)∧∀t,(h:t<l.length)→k≤t→n≤l[t])
  (fun c s=>∃i j:Nat,s=((i:Int),(j:Int))∧i≤j∧j≤l.length∧j-i≤l.length-c∧(∀t,(h:t<l.length)→t<i→l[t]<n)∧∀t,(h:t<l.length)→j≤t→n≤l[t]) (l.length+1)
  (fun c s _ hI=>by
   obtain⟨i,j,rfl,h1,h2,h3,h4,h5⟩:=hI
   by_cases hij:i<j
   ·left
    have hm:(i+j)/2<l.length:=by omega
    have e1:nnI (z8 ((i:Int)+(j:Int)))=some ((i+j:Nat):Int):=by rw [C5 ⟨by omega,by omega⟩,nnI,if_pos (by omega)];rfl
    have e2:b7E ((i+j:Nat):Int) 1=some (((i+j)/2:Nat):Int):=by
     unfold b7E
     rw [if_neg (by omega)]
     show some (Int.fdiv ((i+j:Nat):Int) 2)=_
     rw [Int.fdiv_eq_ediv_of_nonneg _ (by omega)];rfl
    have e3:a1i F l[(i+j)/2] n=some (decide (l[(i+j)/2]<n)):=by
     unfold a1i T9
     simp
    dsimp only
    rw [b8 (by omega),j4,e1,a8,e2,a8,T5 hm,a8,e3,a8]
    by_cases hlt:l[(i+j)/2]<n
    ·refine⟨(((i+j)/2+1:Nat),(j:Int)),?_,(i+j)/2+1,j,rfl,by omega,h2,by omega,fun t ht htm=>?_,h5⟩
     ·rw [b8 hlt,j4,y5 (by omega)]
     ·rcases Nat.lt_or_ge t ((i+j)/2) with h | h
      ·exact Int.lt_trans (hu.asc t _ ht hm h) hlt
      ·obtain rfl:t=(i+j)/2:=by omega
       exact hlt
    ·refine⟨((i:Int),(((i+j)/2:Nat):Int)),?_,i,(i+j)/2,rfl,by omega,by omega,by omega,h4,fun t ht htm=>?_⟩
     ·rw [c6 hlt,i6]
     ·rcases Nat.lt_or_ge ((i+j)/2) t with h | h
      ·exact Int.le_of_lt (Int.lt_of_le_of_lt (Int.not_lt.1 hlt) (hu.asc _ t hm ht h))
      ·obtain rfl:t=(i+j)/2:=by omega
       exact Int.not_lt.1 hlt
   ·right
    refine⟨(i:Int),?_,i,rfl,by omega,h4,fun t ht hti=>h5 t ht (by omega)⟩
    dsimp only
    rw [c6 (by omega),i6])
  (fun s hI=>by
   obtain⟨i,j,rfl,h1,h2,h3,h4,h5⟩:=hI
   refine⟨(i:Int),?_,i,rfl,by omega,h4,fun t ht hti=>h5 t ht (by omega)⟩
   dsimp only
   rw [c6 (by omega),i6]) (l.length+1) 0 ((0:Int),(l.length:Int)) F (by omega) (by omega)
  ⟨0,l.length,rfl,Nat.zero_le _,Nat.le_refl _,by omega,fun t _ h=>by omega,fun t h h'=>by omega⟩
 rw [ht,a8,a8]
 by_cases hk:k<l.length
 ·rw [b8 (by omega),j4,T5 hk,a8]
  cases (l[k]==n)
  ·rw [i6,a8]
   unfold a0m
   rw [beq_self_eq_true,a8]
   exact⟨k,false,rfl,h1,h2,h3⟩
  ·exact⟨k,true,rfl,h1,h2,h3⟩
 ·rw [c6 (by omega),i6]
  exact⟨k,false,rfl,h1,h2,h3⟩
theorem c3h (F:Nat)(l:List Int)(n:Int)(hu:UpL l)(hF:100<F):a5l F l n=some ((b18 l n).elim (0,false) fun x=>(x,true)):=by
 obtain⟨k,b,hs,h1,h2,h3⟩:=c0I F l n hu hF
 unfold a5l b18
 rw [hs,a8]
 dsimp only
 by_cases hk:k=l.length
 ·rw [beq_iff_eq.2 (by omega),j4,List.find?_eq_none.2 fun x hx=>?_]
  ·rfl
  ·obtain⟨i,hi,rfl⟩:=List.mem_iff_getElem.1 hx
   have:=h2 i hi (by omega)
   simp;omega
 ·have hk':k<l.length:=by omega
  have hf:l.find? (fun x=>decide (n≤x))=some l[k]:=List.find?_eq_some_iff_getElem.2 ⟨by simpa using h3 k hk' (Nat.le_refl _),k,hk',rfl,fun j hj=>by have:=h2 j (by omega) hj;simp;omega⟩
  rw [beq_eq_false_iff_ne.2 (by omega),i6,T5 hk',a8,hf]
  rfl
def Y7:List (List Int)→Int→Int→Bool
 | [],last,b=>decide (last≤b)
 | l::r,last,b=>l.any fun x=>decide (last<x)&&Y7 r x b
theorem b94: ∀(r:List (List Int)) {x y b:Int},x≤y→Y7 r y b=true→Y7 r x b=true
 | [],x,y,b,h,e=>by simp only [Y7,decide_eq_true_eq] at e ⊢;omega
 | l::r,x,y,b,h,e=>by
  simp only [Y7,List.any_eq_true,q8,decide_eq_true_eq] at e ⊢
  obtain⟨z,hz,h1,h2⟩:=e
  exact⟨z,hz,by omega,h2⟩
theorem b96 {l:List Int}(hu:UpL l)(r:List (List Int))(last b:Int):Y7 (l::r) last b=(b18 l (last+1)).elim false fun x=>Y7 r x b:=by
 unfold b18
 cases hf:l.find? fun x=>decide (last+1≤x) with
 | none=>
  have:=List.find?_eq_none.1 hf
  simp only [Option.elim,Y7]
  rw [Bool.eq_false_iff]
  intro h
  simp only [List.any_eq_true,q8,decide_eq_true_eq] at h
  obtain⟨x,hx,h1,_⟩:=h
  have:=this x hx
  simp at this;omega
 | some m=>
  obtain⟨h1,k,hk,rfl,h2⟩:=List.find?_eq_some_iff_getElem.1 hf
  simp only [decide_eq_true_eq] at h1
  simp only [Option.elim]
  rw [Bool.eq_iff_iff]
  simp only [Y7,List.any_eq_true,q8,decide_eq_true_eq]
  constructor
  ·rintro⟨x,hx,h3,h4⟩
   obtain⟨i,hi,rfl⟩:=List.mem_iff_getElem.1 hx
   refine b94 r ?_ h4
   rcases Nat.lt_trichotomy k i with h | h | h
   ·exact Int.le_of_lt (hu.asc k i hk hi h)
   ·subst h;exact Int.le_refl _
   ·have:=h2 i h
    simp at this;omega
  ·intro h
   exact⟨l[k],List.getElem_mem hk,by omega,h⟩
def a8O (s:Int×Bool)(l:List Int):Int×Bool:=((b18 l (z8 (s.1+1))).elim 0 id,s.2&&(b18 l (z8 (s.1+1))).isSome)
theorem b4m: ∀(r:List (List Int)) (x:Int),(r.foldl a8O (x,false)).2=false
 | [],x=>rfl
 | l::r,x=>by rw [List.foldl_cons];exact b4m r _
theorem b4T (b:Int): ∀(r:List (List Int)) (x:Int),(∀l∈r,UpL l)→0≤x→x≤999999999→((r.foldl a8O (x,true)).2&&decide ((r.foldl a8O (x,true)).1≤b))=Y7 r x b
 | [],x,_,_,_=>by rw [List.foldl_nil,u5,Y7]
 | l::r,x,hu,h0,h1=>by
  rw [List.foldl_cons,b96 (hu l (.head _))]
  have hw:z8 (x+1)=x+1:=C5 ⟨by omega,by omega⟩
  cases hn:b18 l (x+1) with
  | none=>
   have e:a8O (x,true) l=(0,false):=by
    unfold a8O
    dsimp only
    rw [hw,hn];rfl
   rw [e,b4m];rfl
  | some m=>
   have hm:=(hu l (.head _)).rng m (List.mem_of_find?_eq_some hn)
   have e:a8O (x,true) l=(m,true):=by
    unfold a8O
    dsimp only
    rw [hw,hn];rfl
   rw [e]
   exact b4T b r m (fun q hq=>hu q (.tail _ hq)) hm.1 hm.2
def a5g (lists:List (List Int))(slop:Int):List Int:=
 if lists.all upQ&&(decide (1≤(lists.length:Int))&&decide ((lists.length:Int)≤6))&&(decide (0≤slop)&&decide (slop≤5)) then (lists.headD []).filter fun p=>Y7 lists.tail p (p+lists.length-1+slop) else []
theorem c6I {α:Type}{ws:List α}{p:α→Bool}{f:Nat→List α→Option (List α)}(hl:ws.length≤1000)
  (h: ∀(i:Nat) w (out:List α),ws[i]? =some w→out.length≤1000→f i out=some (if p w then out++[w] else out)):a0C f ws.length 0 []=some (ws.filter p):=c6H hl h
theorem b4C (F:Nat)(lists:List (List Int))(slop:Int)(hl: ∀l∈lists,l.length≤1000)(hn:lists.length≤1000)(hF:2000<F):a11 F lists slop=some (a5g lists slop):=by
 unfold a11 a3W a4l a5g
 cases hne:lists with
 | nil=>rfl
 | cons l0 r=>
  rw [←hne,b8 (by rw [hne];simp only [s6];omega),j4,a0s (p:=upQ) (xs:=lists) (fun i x hx=>?_) lists.length 0 (by omega),List.drop_zero]
  ·cases ha:lists.all upQ with
   | false=>rfl
   | true=>
    have hup: ∀l∈lists,UpL l:=fun l hlm=>c4p (List.all_eq_true.1 ha l hlm)
    simp only [if_true,a8,Sum.elim_inl,u5]
    rw [b8 (show (1:Int)≤(lists.length:Int) by rw [hne];simp only [s6];omega),u5]
    by_cases h6:(lists.length:Int)≤6
    ·rw [b8 h6,l7,i6,O8,a8,a8,u5]
     cases hs:(decide (0≤slop)&&decide (slop≤5)) with
     | false=>rfl
     | true=>
      simp only [q8,decide_eq_true_eq] at hs
      rw [l7,i6,if_pos rfl]
      have hg:v8 lists (0:Int)=some l0:=by rw [hne];rfl
      have hm0:l0∈lists:=by rw [hne];exact .head _
      have htl:a1G lists 1 (lists.length:Int)=some r:=by
       rw [hne]
       unfold a1G
       rw [if_pos ⟨by omega,by simp only [s6];omega,by omega⟩]
       simp
      rw [hg,a8,c6I (p:=fun p=>Y7 r p (p+lists.length-1+slop)) (hl l0 hm0) (fun i w out hw ho=>?_)]
      ·rw [hne];rfl
      ·have hwm:=n5 hw
       have hwr:=(hup l0 hm0).rng w hwm
       rw [n8,hw,a8,htl,a8,a81 (xs:=r) a8O (fun j x s hx=>?_),a8,a8]
       ·have hb:z8 (z8 (z8 (w+(lists.length:Int))-1)+slop)=w+lists.length-1+slop:=by
         rw [C5 (n:=w+(lists.length:Int)) ⟨by omega,by omega⟩,C5 (n:=w+(lists.length:Int)-1) ⟨by omega,by omega⟩,C5 ⟨by omega,by omega⟩]
        have hff:=b4T (w+lists.length-1+slop) r w (fun l h=>hup l (by rw [hne];exact .tail _ h)) hwr.1 hwr.2
        rw [hb,←hff]
        cases (r.foldl a8O (w,true)).2
        ·rfl
        ·rw [j4,a8,u5,H4 (by simp only [l8];omega)]
         cases decide ((r.foldl a8O (w,true)).1≤w+lists.length-1+slop)<;>rfl
       ·have hxu:=hup x (by rw [hne];exact .tail _ (n5 hx))
        rw [n8,hx,a8,c3h F x _ hxu (by omega),a8]
        unfold a8O
        cases b18 x (z8 (s.1+1))<;>cases s.2<;>rfl
    ·rw [c6 h6];rfl
  ·rw [n8,hx,a8,c1W F x (by have:=hl x (n5 hx);omega),a8]
   cases upQ x<;>rfl
theorem c0P (F:Nat)(lists:List (List Int))(slop start:Int)(hu: ∀l∈lists,UpL l)(hn:lists.length≤6)(hs:0≤slop∧slop≤5)(h0:0≤start∧start≤999999999):
  ∀(k:Nat) (last:Int) (G:Nat),k≤lists.length→100+(lists.length-k)<G→0≤last→last≤999999999→Z9 G lists (k:Int) last start slop=some (Y7 (lists.drop k) last (start+lists.length-1+slop)):=by
 intro k
 induction hk:lists.length-k generalizing k with
 | zero=>
  intro last G hkl hG h1 h2
  obtain⟨G,rfl⟩: ∃g,G=g+1:=⟨G-1,by omega⟩
  obtain rfl:k=lists.length:=by omega
  rw [Z9]
  dsimp only
  rw [beq_self_eq_true,j4,a8,List.drop_length,Y7,C5 (n:=last-start) ⟨by omega,by omega⟩,C5 (n:=(lists.length:Int)-1) ⟨by omega,by omega⟩,C5 ⟨by omega,by omega⟩]
  congr 1
  rw [decide_eq_decide]
  omega
 | succ d ih=>
  intro last G hkl hG h1 h2
  obtain⟨G,rfl⟩: ∃g,G=g+1:=⟨G-1,by omega⟩
  have hkl':k<lists.length:=by omega
  have hlu:=hu _ (List.getElem_mem hkl')
  have hfew:=hlu.few
  rw [Z9]
  dsimp only
  rw [beq_eq_false_iff_ne.2 (by omega),i6,List.drop_eq_getElem_cons hkl',a0u (xs:=lists[k]) (fun x=>decide (last<x)&&Y7 (lists.drop (k+1)) x (start+lists.length-1+slop)) (fun _=>(Sum.inr true:Unit⊕Bool)) (e:=Sum.inl ()) G (by omega) (fun i x hx=>?_) ?_]
  ·rw [Y7]
   cases hf:lists[k].find? fun x=>decide (last<x)&&Y7 (lists.drop (k+1)) x (start+lists.length-1+slop) with
   | none=>
    have:(lists[k].any fun x=>decide (last<x)&&Y7 (lists.drop (k+1)) x (start+lists.length-1+slop))=false:=by
     rw [List.any_eq_false]
     exact List.find?_eq_none.1 hf
    rw [this];rfl
   | some m=>
    have:(lists[k].any fun x=>decide (last<x)&&Y7 (lists.drop (k+1)) x (start+lists.length-1+slop))=true:=by
     rw [List.any_eq_true]
     exact⟨m,List.mem_of_find?_eq_some hf,List.find?_some (p:=fun x=>decide (last<x)&&Y7 (lists.drop (k+1)) x (start+lists.length-1+slop)) hf⟩
    rw [this];rfl
  ·rw [T5 hkl',a8,c6 (by omega)];rfl
  ·have hi:=(i4.1 hx).1
   have hxr:=hlu.rng x (n5 hx)
   rw [T5 hkl',a8,b8 (by omega),j4,a8,n8,hx,a8]
   cases hlt:decide (last<x) with
   | false=>
    rw [i6,a8,i6,y5 (by omega)];rfl
   | true=>
    rw [j4,a8,n8,hx,a8,y5 (by omega),ih (k+1) (by omega) x G (by omega) (by omega) hxr.1 hxr.2,a8,a8,y5 (by omega),u5]
    cases Y7 (lists.drop (k+1)) x (start+lists.length-1+slop)<;>rfl
theorem b4N (F:Nat)(lists:List (List Int))(slop:Int)(hl: ∀l∈lists,l.length≤1000)(hn:lists.length≤1000)(hF:2000<F):a18 F lists slop=some (a5g lists slop):=by
 unfold a18 a5g
 rw [a0u (xs:=lists) (fun l=> !upQ l) (fun _=>(Sum.inr []:Unit⊕List Int)) (e:=Sum.inl ()) F (by omega) (fun i x hx=>?_) ?_]
 ·cases hf:lists.find? fun l=> !upQ l with
  | some m=>
   have:lists.all upQ=false:=by
    rw [List.all_eq_false]
    exact⟨m,List.mem_of_find?_eq_some hf,by have:=List.find?_some hf;simpa using this⟩
   rw [this];rfl
  | none=>
   have ha:lists.all upQ=true:=by
    rw [List.all_eq_true]
    intro x hx
    have:=List.find?_eq_none.1 hf x hx
    simpa using this
   have hup: ∀l∈lists,UpL l:=fun l hlm=>c4p (List.all_eq_true.1 ha l hlm)
   simp only [Option.elim,a8,Sum.elim_inl]
   rw [ha,inS,a8,u5]
   cases h6:(decide (1≤(lists.length:Int))&&decide ((lists.length:Int)≤6)) with
   | false=>rfl
   | true=>
    simp only [q8,decide_eq_true_eq] at h6
    rw [l7,i6,inS,a8,a8,u5]
    cases hs:(decide (0≤slop)&&decide (slop≤5)) with
    | false=>rfl
    | true=>
     simp only [q8,decide_eq_true_eq] at hs
     rw [l7,i6,if_pos rfl]
     obtain⟨l0,r,hne⟩: ∃l0 r,lists=l0::r:=by
      cases lists with
      | nil=>simp at h6
      | cons l0 r=>exact⟨l0,r,rfl⟩
     have hg:v8 lists (0:Int)=some l0:=by rw [hne];rfl
     have hm0:l0∈lists:=by rw [hne];exact .head _
     have hl0:=hl l0 hm0
     rw [c6J (ws:=l0) (p:=fun p=>Y7 r p (p+lists.length-1+slop)) hl0 (fun i w out hw ho=>?_) (fun out=>?_) F (by omega)]
     ·rw [hne];rfl
     ·have hi:=(i4.1 hw).1
      have hwr:=(hup l0 hm0).rng w (n5 hw)
      dsimp only
      rw [hg,a8,b8 (by omega),j4]
      simp only [a8,n8,hw]
      have:=c0P F lists slop w hup (by omega) hs hwr 1 w F (by omega) (by omega) hwr.1 hwr.2
      rw [show ((1:Nat):Int)=1 from rfl] at this
      rw [this,a8,show lists.drop 1=r by rw [hne];rfl,y5 (by omega),H4 (by simp only [l8];omega)]
      cases Y7 r w (w+lists.length-1+slop)<;>rfl
     ·rw [hg,a8,c6 (by omega)];rfl
 ·rw [c6 (by omega)];rfl
 ·have hi:=(i4.1 hx).1
  rw [b8 (by omega),j4,n8,hx,a8,c2w F x (hl x (n5 hx)) (by omega),a8,y5 (by omega)]
  cases upQ x<;>rfl
end Go.Fk
set_option linter.unusedVariables false
namespace Go.Fk
open Go
def b1q (a b:r4):Nat→Nat→Int
 | 0,j=>(j:Int)
 | i+1,0=>((i+1:Nat):Int)
 | i+1,j+1=>
  let c:=b1q a b i j+if a[i]? =b[j]? then 0 else 1
  let u:=b1q a b i (j+1)+1
  let v:=b1q a b (i+1) j+1
  if v<(if u<c then u else c) then v else (if u<c then u else c)
def b2p (a b:r4):Int:=b1q a b a.length b.length
def a7S (a b:r4)(i j:Nat)(v:Int):Prop:=0≤v∧v≤(i:Int)+j∧v=b1q a b i j
theorem b6J (a b:r4)(j:Nat):a7S a b 0 j (j:Int):=⟨by omega,by omega,by rw [b1q]⟩
theorem b6I (a b:r4)(i:Nat):a7S a b (i+1) 0 ((i+1:Nat):Int):=⟨by omega,by omega,by rw [b1q]⟩
theorem b4R {a b:r4}{i j:Nat}{x y:UInt8}{c u v:Int}(hi:a[i]? =some x)(hj:b[j]? =some y)(hc:a7S a b i j c)(hu:a7S a b i (j+1) u)(hv:a7S a b (i+1) j v):
  a7S a b (i+1) (j+1) (if v+1<(if u+1<(c+if x=y then 0 else 1) then u+1 else (c+if x=y then 0 else 1)) then v+1 else (if u+1<(c+if x=y then 0 else 1) then u+1 else (c+if x=y then 0 else 1))):=by
 have h1:=hc.1;have h2:=hu.1;have h3:=hv.1
 have k1:=hc.2.1;have k2:=hu.2.1;have k3:=hv.2.1
 have hxy:(if a[i]? =b[j]? then (0:Int) else 1)=if x=y then 0 else 1:=by
  rw [hi,hj]
  by_cases h:x=y
  ·rw [if_pos h,if_pos (by rw [h])]
  ·rw [if_neg h,if_neg (by simpa using h)]
 refine⟨?_,?_,?_⟩
 ·split<;>split at * <;>split at * <;>omega
 ·split<;>split at * <;>split at * <;>omega
 ·rw [b1q,hxy,←hc.2.2,←hu.2.2,←hv.2.2]
theorem b66 (F:Nat)(a b:r4)(ha:D0 a=true)(hb:D0 b=true)(hF:100<F):a0h F a b=some (b2p a b):=by
 have la:=O4 ha
 have lb:=O4 hb
 unfold a0h
 rw [O0,ha,a8,l7,i6,O0,hb,a8,l7,a8,i6,y5 (by omega)]
 unfold b0A
 rw [if_pos ⟨by omega,by omega⟩,a8,Int.toNat_natCast]
 -- the first row
 have key0:=fun f step=>a6T (σ:=List Int) (f:=f) (fun k row=>row.length=b.length+1∧∀j,j<k→row[j]? =some (j:Int)) (List.replicate (b.length+1) (0:Int)).length step (List.replicate (b.length+1) (0:Int)).length 0 (List.replicate (b.length+1) (0:Int)) (by omega) ⟨by simp,fun j h=>by omega⟩
 generalize hf0:(fun (i55:Nat) (s51:(List Int))=>_:Nat→List Int→Option (List Int))=f0
 obtain⟨row0,hr0,hl0,hv0⟩:=key0 f0 (fun i s hi hs=>by
  subst hf0
  obtain⟨h1,h2⟩:=hs
  simp only [List.length_replicate] at hi
  dsimp only
  rw [n8,j8 (show i<s.length by omega),a8,Int.toNat_natCast]
  refine⟨_,rfl,by simp [h1],fun j hj=>?_⟩
  rw [List.getElem?_set]
  by_cases hij:i=j
  ·subst hij;rw [if_pos rfl,if_pos (by omega)]
  ·rw [if_neg hij];exact h2 j (by omega))
 simp only [List.length_replicate] at hr0 hv0
 rw [List.length_replicate,hr0,a8,a8]
 -- the rows
 have key:=fun f step fin=>I7 (σ:=Int×List Int) (τ:=List Int) (f:=f) (Post:=fun t=>∃v,t[b.length]? =some v∧a7S a b a.length b.length v)
  (fun i s=>s.1=((i+1:Nat):Int)∧s.2.length=b.length+1∧∀j,j≤b.length→∃v,s.2[j]? =some v∧a7S a b i j v) a.length step fin a.length 0 ((1:Int),row0) F (by omega) (by omega)
  ⟨rfl,hl0,fun j hj=>⟨(j:Int),hv0 j (by omega),b6J a b j⟩⟩
 generalize hf:(fun (s91:Int×(List Int))=>_:Int×List Int→Option ((Int×List Int)⊕(List Int)))=f
 obtain⟨t,ht,v,hv,hp⟩:=key f (fun i s hi hs=>by
  subst hf
  obtain⟨s1,row⟩:=s
  obtain⟨h1,h2,h3⟩:=hs
  simp only at h1 h2 h3
  subst h1
  dsimp only
  obtain⟨c0,hc0,hc0p⟩:=h3 0 (by omega)
  rw [b8 (by omega),j4,show (0:Int)=((0:Nat):Int) from rfl,n8,hc0,a8,a8,Int.toNat_natCast]
  have key2:=fun g step2 fin2=>I7 (σ:=Int×Int×List Int) (τ:=List Int) (f:=g) (Post:=fun t=>t.length=b.length+1∧∀j,j≤b.length→∃v,t[j]? =some v∧a7S a b (i+1) j v)
   (fun k s=>s.2.1=((k+1:Nat):Int)∧a7S a b i k s.1∧s.2.2.length=b.length+1∧(∀j,j≤k→∃v,s.2.2[j]? =some v∧a7S a b (i+1) j v)∧∀j,k<j→j≤b.length→∃v,s.2.2[j]? =some v∧a7S a b i j v)
   b.length step2 fin2 b.length 0 (c0,(1:Int),row.set 0 ((i+1:Nat):Int)) F (by omega) (by omega)
   ⟨rfl,hc0p,by simp [h2],fun j hj=>⟨((i+1:Nat):Int),by
    have:j=0:=by omega
    subst this
    rw [List.getElem?_set,if_pos rfl,if_pos (by omega)],by
    have:j=0:=by omega
    subst this
    exact b6I a b i⟩,fun j hj hj2=>by
    obtain⟨v,hv,hp⟩:=h3 j hj2
    exact⟨v,by simp only;rw [List.getElem?_set,if_neg (by omega)];exact hv,hp⟩⟩
  generalize hg:(fun (s139:Int×Int×(List Int))=>_:Int×Int×List Int→Option ((Int×Int×List Int)⊕(List Int)))=g
  obtain⟨t,ht,hp1,hp2⟩:=key2 g (fun k s hk hs=>by
   subst hg
   obtain⟨cr,s1,row⟩:=s
   obtain⟨q1,q2,q3,q4,q5⟩:=hs
   simp only at q1 q2 q3 q4 q5
   subst q1
   dsimp only
   have hax:a[i]? =some a[i]:=j8 hi
   have hbx:b[k]? =some b[k]:=j8 hk
   obtain⟨u,hu,hup⟩:=q5 (k+1) (by omega) (by omega)
   obtain⟨w,hw,hwp⟩:=q4 k (by omega)
   have e1:z8 (((i+1:Nat):Int)-1)=(i:Int):=by rw [C5 ⟨by omega,by omega⟩];omega
   have e2:z8 (((k+1:Nat):Int)-1)=(k:Int):=by rw [C5 ⟨by omega,by omega⟩];omega
   have b1:=q2.1;have b2:=q2.2.1;have b3:=hup.1;have b4:=hup.2.1;have b5:=hwp.1;have b6:=hwp.2.1
   rw [b8 (by omega),j4,e1,e2,n8,hax,a8,n8,hbx,a8]
   have hcost:(cond (!(a[i]==b[k])) (some (z8 (cr+(1:Int)))) (some cr):Option Int)=some (cr+if a[i]=b[k] then 0 else 1):=by
    by_cases h:a[i]=b[k]
    ·rw [if_pos h,show (a[i]==b[k])=true from beq_iff_eq.2 h];simp
    ·rw [if_neg h,beq_eq_false_iff_ne.2 h,C5 ⟨by omega,by omega⟩];rfl
   rw [hcost,a8,n8,hu,a8,a8,n8,hw,a8,a8,y5 (by omega),C5 (n:=u+1) ⟨by omega,by omega⟩,C5 (n:=w+1) ⟨by omega,by omega⟩,Int.toNat_natCast]
   have hst:=b4R hax hbx q2 hup hwp
   refine .inl ⟨_,rfl,rfl,hup,by simp [q3],fun j hj=>?_,fun j hj hj2=>?_⟩
   ·simp only
    rw [List.getElem?_set]
    by_cases hjk:k+1=j
    ·subst hjk
     rw [if_pos rfl,if_pos (by omega)]
     exact⟨_,rfl,hst⟩
    ·rw [if_neg hjk]
     exact q4 j (by omega)
   ·simp only
    rw [List.getElem?_set,if_neg (by omega)]
    exact q5 j (by omega) hj2) (fun s hs=>by
   subst hg
   obtain⟨cr,s1,row⟩:=s
   obtain⟨q1,q2,q3,q4,q5⟩:=hs
   simp only at q1 q2 q3 q4 q5
   subst q1
   dsimp only
   rw [c6 (by omega),i6]
   exact⟨_,rfl,q3,q4⟩)
  have ht':y2 g F (c0,(1:Int),row.set 0 ((i+1:Nat):Int))=some t:=ht
  rw [ht',a8,a8,y5 (by omega)]
  exact .inl ⟨_,rfl,rfl,hp1,hp2⟩) (fun s hs=>by
  subst hf
  obtain⟨s1,row⟩:=s
  obtain⟨h1,h2,h3⟩:=hs
  simp only at h1 h2 h3
  subst h1
  dsimp only
  rw [c6 (by omega),i6]
  exact⟨_,rfl,h3 b.length (Nat.le_refl _)⟩)
 rw [ht,a8,a8,n8,hv]
 rw [hp.2.2];rfl
theorem c4Y (F:Nat)(p q:Int):a3k F p q=some (if p<q then p else q):=by
 unfold a3k
 by_cases h:p<q
 ·rw [b8 h,if_pos h];rfl
 ·rw [c6 h,if_neg h];rfl
theorem c4X (c u v:Int):(if c<(if v<u then v else u)+1 then c else (if v<u then v else u)+1)=if v+1<(if u+1<c then u+1 else c) then v+1 else (if u+1<c then u+1 else c):=by
 split<;>split<;>split<;>(try split at *)<;>omega
theorem c2q (F:Nat)(a b:r4)(la:a.length≤1000)(lb:b.length≤1000)(hF:2000<F):a4o F a b=some (b2p a b):=by
 unfold a4o
 rw [y5 (by omega)]
 unfold b0A
 rw [if_pos ⟨by omega,by omega⟩,a8,Int.toNat_natCast]
 have key0:=fun f step fin=>I7 (σ:=Int×List Int) (τ:=List Int) (f:=f) (Post:=fun t=>t.length=b.length+1∧∀j,j≤b.length→t[j]? =some (j:Int)) (fun k s=>s.1=(k:Int)∧s.2.length=b.length+1∧∀j,j<k→s.2[j]? =some (j:Int)) (b.length+1) step fin (b.length+1) 0 ((0:Int),List.replicate (b.length+1) (0:Int)) F (by omega) (by omega) ⟨rfl,by simp,fun j h=>by omega⟩
 generalize hf0:(fun (s24:Int×(List Int))=>_:Int×List Int→Option ((Int×List Int)⊕(List Int)))=f0
 obtain⟨row0,hr0,hl0,hv0⟩:=key0 f0 (fun i s hi hs=>by
  subst hf0
  obtain⟨s1,row⟩:=s
  obtain⟨h0,h1,h2⟩:=hs
  simp only at h0 h1 h2
  subst h0
  dsimp only
  rw [b8 (by omega),j4,n8,j8 (show i<row.length by omega),a8,Int.toNat_natCast,y5 (by omega)]
  refine .inl ⟨_,rfl,rfl,by simp [h1],fun j hj=>?_⟩
  simp only
  rw [List.getElem?_set]
  by_cases hij:i=j
  ·subst hij;rw [if_pos rfl,if_pos (by omega)]
  ·rw [if_neg hij];exact h2 j (by omega)) (fun s hs=>by
  subst hf0
  obtain⟨s1,row⟩:=s
  obtain⟨h0,h1,h2⟩:=hs
  simp only at h0 h1 h2
  subst h0
  dsimp only
  rw [c6 (by omega),i6]
  exact⟨_,rfl,h1,fun j hj=>h2 j (by omega)⟩)
 rw [hr0,a8,a8]
 have key:=fun f step fin=>I7 (σ:=Int×List Int) (τ:=List Int) (f:=f) (Post:=fun t=>∃v,t[b.length]? =some v∧a7S a b a.length b.length v)
  (fun i s=>s.1=(i:Int)∧s.2.length=b.length+1∧∀j,j≤b.length→∃v,s.2[j]? =some v∧a7S a b i j v) a.length step fin a.length 0 ((0:Int),row0) F (by omega) (by omega)
  ⟨rfl,hl0,fun j hj=>⟨(j:Int),hv0 j (by omega),b6J a b j⟩⟩
 generalize hf:(fun (s65:Int×(List Int))=>_:Int×List Int→Option ((Int×List Int)⊕(List Int)))=f
 obtain⟨t,ht,v,hv,hp⟩:=key f (fun i s hi hs=>by
  subst hf
  obtain⟨s1,row⟩:=s
  obtain⟨h1,h2,h3⟩:=hs
  simp only at h1 h2 h3
  subst h1
  dsimp only
  obtain⟨c0,hc0,hc0p⟩:=h3 0 (by omega)
  have hg0:v8 row (0:Int)=some c0:=by rw [show (0:Int)=((0:Nat):Int) from rfl,n8,hc0]
  rw [b8 (by omega),j4,hg0,a8,a8,y5 (by omega),show ((0:Int)).toNat=0 from rfl]
  have key2:=fun g step2 fin2=>I7 (σ:=Int×Int×List Int) (τ:=List Int) (f:=g) (Post:=fun t=>t.length=b.length+1∧∀j,j≤b.length→∃v,t[j]? =some v∧a7S a b (i+1) j v)
   (fun k s=>s.2.1=(k:Int)∧a7S a b i k s.1∧s.2.2.length=b.length+1∧(∀j,j≤k→∃v,s.2.2[j]? =some v∧a7S a b (i+1) j v)∧∀j,k<j→j≤b.length→∃v,s.2.2[j]? =some v∧a7S a b i j v)
   b.length step2 fin2 b.length 0 (c0,(0:Int),row.set 0 ((i+1:Nat):Int)) F (by omega) (by omega)
   ⟨rfl,hc0p,by simp [h2],fun j hj=>⟨((i+1:Nat):Int),by
    have:j=0:=by omega
    subst this
    rw [List.getElem?_set,if_pos rfl,if_pos (by omega)],by
    have:j=0:=by omega
    subst this
    exact b6I a b i⟩,fun j hj hj2=>by
    obtain⟨v,hv,hp⟩:=h3 j hj2
    exact⟨v,by simp only;rw [List.getElem?_set,if_neg (by omega)];exact hv,hp⟩⟩
  generalize hg:(fun (s113:Int×Int×(List Int))=>_:Int×Int×List Int→Option ((Int×Int×List Int)⊕(List Int)))=g
  obtain⟨t,ht,hp1,hp2⟩:=key2 g (fun k s hk hs=>by
   subst hg
   obtain⟨cr,s1,row⟩:=s
   obtain⟨q1,q2,q3,q4,q5⟩:=hs
   simp only at q1 q2 q3 q4 q5
   subst q1
   dsimp only
   have hax:a[i]? =some a[i]:=j8 hi
   have hbx:b[k]? =some b[k]:=j8 hk
   obtain⟨u,hu,hup⟩:=q5 (k+1) (by omega) (by omega)
   obtain⟨w,hw,hwp⟩:=q4 k (by omega)
   have b1:=q2.1;have b2:=q2.2.1;have b3:=hup.1;have b4:=hup.2.1;have b5:=hwp.1;have b6:=hwp.2.1
   rw [b8 (by omega),j4,n8,hax,a8,n8,hbx,a8]
   have hcost:(cond (!(a[i]==b[k])) (some (z8 (cr+(1:Int)))) (some cr):Option Int)=some (cr+if a[i]=b[k] then 0 else 1):=by
    by_cases h:a[i]=b[k]
    ·rw [if_pos h,show (a[i]==b[k])=true from beq_iff_eq.2 h];simp
    ·rw [if_neg h,beq_eq_false_iff_ne.2 h,C5 ⟨by omega,by omega⟩];rfl
   have hm:z8 ((if w<u then w else u)+1)=(if w<u then w else u)+1:=by split<;>exact C5 ⟨by omega,by omega⟩
   rw [hcost,a8,y5 (by omega)]
   simp only [n8,hu,hw,a8,c4Y,hm]
   rw [c4X,Int.toNat_natCast]
   have hst:=b4R hax hbx q2 hup hwp
   refine .inl ⟨_,rfl,rfl,hup,by simp [q3],fun j hj=>?_,fun j hj hj2=>?_⟩
   ·simp only
    rw [List.getElem?_set]
    by_cases hjk:k+1=j
    ·subst hjk
     rw [if_pos rfl,if_pos (by omega)]
     exact⟨_,rfl,hst⟩
    ·rw [if_neg hjk]
     exact q4 j (by omega)
   ·simp only
    rw [List.getElem?_set,if_neg (by omega)]
    exact q5 j (by omega) hj2) (fun s hs=>by
   subst hg
   obtain⟨cr,s1,row⟩:=s
   obtain⟨q1,q2,q3,q4,q5⟩:=hs
   simp only at q1 q2 q3 q4 q5
   subst q1
   dsimp only
   rw [c6 (by omega),i6]
   exact⟨_,rfl,q3,q4⟩)
  have ht':y2 g F (c0,(0:Int),row.set 0 ((i+1:Nat):Int))=some t:=ht
  rw [ht',a8,a8]
  exact .inl ⟨_,rfl,rfl,hp1,hp2⟩) (fun s hs=>by
  subst hf
  obtain⟨s1,row⟩:=s
  obtain⟨h1,h2,h3⟩:=hs
  simp only at h1 h2 h3
  subst h1
  dsimp only
  rw [c6 (by omega),i6]
  exact⟨_,rfl,h3 b.length (Nat.le_refl _)⟩)
 rw [ht,a8,a8,n8,hv]
 rw [hp.2.2];rfl
theorem b2X (a b:r4): ∀i j:Nat,0≤b1q a b i j∧b1q a b i j≤(i:Int)+j
 | 0,j=>by rw [b1q];omega
 | i+1,0=>by rw [b1q];omega
 | i+1,j+1=>by
  have h1:=b2X a b i j
  have h2:=b2X a b i (j+1)
  have h3:=b2X a b (i+1) j
  rw [b1q]
  split<;>split<;>split<;>omega
end Go.Fk
