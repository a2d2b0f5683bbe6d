import Derived.Test.YtepcfgnicnibnaaGreatDoorLawSegs
import Derived.Test.YtepcfgnicnibnaaGreatDoorLawBase
/-
  Patterns: the program and the reference match alike. Of no program's steps.
-/
namespace Go.Fk
open Go
def gB (b:UInt8):Bool:=a0W b||(b==42||b==63)
def a7B (p:q9):Bool:=p.all gB&&(decide (1≤(p.length:Int))&&decide ((p.length:Int)≤12))
theorem a7C (F:Nat)(p:q9):a1B F p=some (a7B p):=by
 unfold a1B a7B
 rw [a0k (p:=gB) (xs:=p) (f:=_) (fun i x hx=>?_) p.length 0 (by omega),List.drop_zero]
 ·cases p.all gB
  ·rfl
  ·simp only [if_true,a8,Sum.elim_inl,q8]
   rw [M7];rfl
 ·rw [n5,hx,a8,a43,a8]
  unfold gB
  cases a0W x
  ·rw [Bool.not_false,i9,a8]
   cases x==42
   ·rw [Bool.not_false,i9,a8,a8]
    cases x==63<;>rfl
   ·rfl
  ·rfl
theorem b8Y (x:UInt8):D0 [x]=a0W x:=by
 unfold D0
 simp
theorem b1E (F:Nat)(p:q9)(hF:p.length+50<F)(hl:p.length≤1000000):a1r F p=some (a7B p):=by
 unfold a1r a7B
 rw [a07 gB (xs:=p) F (by omega) (fun i x hx=>?_) ?_]
 ·cases p.all gB
  ·rfl
  ·simp only [if_true,a8,Sum.elim_inl,q8]
   rw [inS];rfl
 ·rw [c6 (by omega)];rfl
 ·have hi:=(i4.1 hx).1
  rw [b8 (by omega),i9,n5,hx,a8,y2 (by omega)]
  unfold gB
  cases h42:x==42
  ·rw [Bool.not_false,i9,a8]
   cases h63:x==63
   ·have hsub:a2I p (i:Int) ((i+1:Nat):Int)=some [x]:=by
     have hx':=(i4.1 hx).2
     unfold a2I
     rw [if_pos ⟨by omega,by omega,by omega⟩,Int.toNat_natCast,Int.toNat_natCast,List.drop_take,show i+1-i=1 by omega,List.drop_eq_getElem_cons hi,hx']
     rfl
    rw [Bool.not_false,i9,hsub,a8,Y8 F [x] 1 (by simp) (by omega) (by omega),b8Y,a8]
    cases a0W x<;>rfl
   ·cases a0W x<;>rfl
  ·cases a0W x<;>rfl
theorem U3 (c:UInt8)(s:q9):a2I (c::s) (1:Int) ((c::s).length:Int)=some s:=by
 unfold a2I
 rw [if_pos ⟨by omega,by simp only [r4];omega,by omega⟩]
 simp
theorem a8o (c:UInt8)(s:q9):u0 (c::s) (0:Int)=some c:=rfl
def a2X:q9→q9→Bool
 | [],s=>s==[]
 | c::p,[]=>if c==42 then a2X p [] else false
 | c::p,x::s=>if c==42 then a2X p (x::s)||a2X (c::p) s else if c==63 then a2X p s else if c==x then a2X p s else false
termination_by p s=>p.length+s.length
theorem b4H: ∀(n:Nat) (p s:q9) (F:Nat),p.length+s.length≤n→n<F→O2 F p s=some (a2X p s)
 | n,[],s,F,hn,hF=>by
  obtain⟨F,rfl⟩: ∃G,F=G+1:=⟨F-1,by omega⟩
  rw [a2X];rfl
 | 0,c::p,s,F,hn,hF=>by simp at hn
 | n+1,c::p,s,F,hn,hF=>by
  obtain⟨F,rfl⟩: ∃G,F=G+1:=⟨F-1,by omega⟩
  rw [O2]
  dsimp only
  rw [show ((c::p:q9)==([]:q9))=false from rfl,i6,a8o,a8]
  simp only [r4] at hn
  have ih:=fun p s h=>b4H n p s F h (by omega)
  cases s with
  | nil=>
   rw [a2X]
   cases h42:c==42
   ·rfl
   ·rw [i9,U3,a8,ih p [] (by simpa using hn),a8,if_pos rfl]
    cases a2X p []<;>rfl
  | cons x s=>
   simp only [r4] at hn
   rw [a2X]
   cases h42:c==42
   ·rw [i6,show ((x::s:q9)==([]:q9))=false from rfl,i6,if_neg (by simp)]
    rw [a8]
    cases h63:c==63
    ·rw [i6,if_neg (by simp),a8,a8o,a8]
     cases hx:c==x
     ·rfl
     ·rw [i9,U3,a8,U3,a8,ih p s (by omega),a8];rfl
    ·rw [i9,U3,a8,U3,a8,ih p s (by omega),a8];rfl
   ·rw [i9,U3,a8,ih p (x::s) (by simp only [r4];omega),a8,if_pos rfl]
    cases a2X p (x::s)
    ·rw [i6,show ((x::s:q9)==([]:q9))=false from rfl,Bool.not_false,i9,U3,a8,ih (c::p) s (by simp only [r4];omega)]
     rfl
    ·rfl
theorem b43: ∀(n:Nat) (p s:q9) (F:Nat),p.length+s.length≤n→n<F→Q5 F p s=some (a2X p s)
 | n,[],s,F,hn,hF=>by
  obtain⟨F,rfl⟩: ∃G,F=G+1:=⟨F-1,by omega⟩
  rw [a2X];rfl
 | 0,c::p,s,F,hn,hF=>by simp at hn
 | n+1,c::p,s,F,hn,hF=>by
  obtain⟨F,rfl⟩: ∃G,F=G+1:=⟨F-1,by omega⟩
  rw [Q5]
  dsimp only
  rw [show ((c::p:q9)==([]:q9))=false from rfl,i6,a8o,a8]
  simp only [r4] at hn
  have ih:=fun p s h=>b43 n p s F h (by omega)
  cases s with
  | nil=>
   rw [a2X]
   cases h42:c==42
   ·rfl
   ·rw [i9,U3,a8,ih p [] (by simpa using hn),a8,if_pos rfl]
    cases a2X p []<;>rfl
  | cons x s=>
   simp only [r4] at hn
   rw [a2X]
   cases h42:c==42
   ·rw [i6,show ((x::s:q9)==([]:q9))=false from rfl,Bool.not_false,i9,if_neg (by simp)]
    rw [a8]
    cases h63:c==63
    ·rw [i6,if_neg (by simp),a8,a8o,a8]
     cases hx:c==x
     ·rfl
     ·rw [i9,U3,a8,U3,a8,ih p s (by omega),a8];rfl
    ·rw [i9,U3,a8,U3,a8,ih p s (by omega),a8];rfl
   ·rw [i9,U3,a8,ih p (x::s) (by simp only [r4];omega),a8,if_pos rfl]
    cases a2X p (x::s)
    ·rw [i6,show ((x::s:q9)==([]:q9))=false from rfl,Bool.not_false,i9,U3,a8,ih (c::p) s (by simp only [r4];omega)]
     rfl
    ·rfl
end Go.Fk
set_option linter.unusedVariables false
namespace Go.Fk
open Go
inductive a4y:r5→Prop
 | all:a4y ⟨1,[],[],0,0,[]⟩
 | term {f w:q9}:D0 f=true→D0 w=true→a4y ⟨2,f,[w],0,0,[]⟩
 | phrase {f:q9} {ws:List q9} {n:Int}:D0 f=true→2≤ws.length→ws.length≤4→(∀w∈ws,D0 w=true)→0≤n→n≤5→a4y ⟨3,f,ws,n,0,[]⟩
 | near {f w:q9} {n:Int}:D0 f=true→D0 w=true→1≤n→n≤2→a4y ⟨4,f,[w],n,0,[]⟩
 | glob {f p:q9}:D0 f=true→a7B p=true→D0 p=false→a4y ⟨5,f,[p],0,0,[]⟩
 | range {f:q9} {a b:Int}:D0 f=true→0≤a→a≤999999999→a≤b→b≤999999999→a4y ⟨6,f,[],a,b,[]⟩
inductive I8:Nat→r5→Prop
 | leaf {d:Nat} {q:r5}:a4y q→I8 (d+1) q
 | and {d:Nat} {ks:List r5}:2≤ks.length→ks.length≤4→(∀k∈ks,I8 d k)→I8 (d+1) ⟨7,[],[],0,0,ks⟩
 | or {d:Nat} {ks:List r5}:2≤ks.length→ks.length≤4→(∀k∈ks,I8 d k)→I8 (d+1) ⟨8,[],[],0,0,ks⟩
 | less {d:Nat} {a b:r5}:I8 d a→I8 d b→I8 (d+1) ⟨9,[],[],0,0,[a,b]⟩
 | times {d:Nat} {n:Int} {k:r5}:2≤n→n≤9→I8 d k→I8 (d+1) ⟨10,[],[],n,0,[k]⟩
theorem I8.more: ∀{d e:Nat} {q:r5},I8 d q→d≤e→I8 e q
 | 0,_,_,h,_=>by cases h
 | d+1,0,_,_,he=>by omega
 | d+1,e+1,q,h,he=>by
  cases h with
  | leaf h=>exact .leaf h
  | and h1 h2 h3=>exact .and h1 h2 fun k hk=>I8.more (h3 k hk) (by omega)
  | or h1 h2 h3=>exact .or h1 h2 fun k hk=>I8.more (h3 k hk) (by omega)
  | less h1 h2=>exact .less (h1.more (by omega)) (h2.more (by omega))
  | times h1 h2 h3=>exact .times h1 h2 (h3.more (by omega))
theorem a5H {s:q9}(h:D0 s=true):(s==([]:q9))=false:=by
 cases s with
 | nil=>exact absurd h (by decide)
 | cons x r=>rfl
theorem N7 {a b:Int}(h:a≤b):decide (a≤b)=true:=b8 h
theorem c18 (F:Nat)(deep:Nat){q:r5}(h:a4y q)(hd:1≤deep):H8 (F+1) q (deep:Int)=some true:=by
 rw [H8]
 dsimp only
 cases h with
 | all=>
  rw [show J3 1=true from rfl,show z8 1=⟨false,0,0,0,0,false,0,0⟩ from rfl,c6 (show ¬((deep:Int)<1) by omega)]
  rfl
 | @term f w hf hw=>
  rw [show J3 2=true from rfl,show z8 2=⟨true,1,1,0,0,false,0,0⟩ from rfl,c6 (show ¬((deep:Int)<1) by omega),a5H hf,M0,hf]
  simp only [M7,a8,C7,r4,List.length_nil,n5,List.getElem?_cons_zero,M0,hw]
  rfl
 | @phrase f ws n hf h1 h2 hw h3 h4=>
  rw [show J3 3=true from rfl,show z8 3=⟨true,2,4,0,5,false,0,0⟩ from rfl,c6 (show ¬((deep:Int)<1) by omega),a5H hf,M0,hf]
  simp only [M7,a8]
  rw [N7 (show (2:Int)≤ws.length by omega),N7 (show (ws.length:Int)≤4 by omega),N7 h3,N7 h4,a0k (p:=fun _=>true) (xs:=ws) (fun i x hx=>?_) ws.length 0 (by omega)]
  ·simp;rfl
  ·rw [n5,hx,a8,M0,hw x (l7 hx)];rfl
 | @near f w n hf hw h1 h2=>
  rw [show J3 4=true from rfl,show z8 4=⟨true,1,1,1,2,false,0,0⟩ from rfl,c6 (show ¬((deep:Int)<1) by omega),a5H hf,M0,hf]
  simp only [M7,a8,C7,r4,List.length_nil,n5,List.getElem?_cons_zero,M0,hw,N7 h1,N7 h2]
  rfl
 | @glob f p hf hp hn=>
  rw [show J3 5=true from rfl,show z8 5=⟨true,1,1,0,0,false,0,0⟩ from rfl,c6 (show ¬((deep:Int)<1) by omega),a5H hf,M0,hf]
  simp only [M7,a8,C7,r4,List.length_nil,n5,List.getElem?_cons_zero,M0,a7C,hp,hn]
  rfl
 | @range f a b hf h1 h2 h3 h4=>
  rw [show J3 6=true from rfl,show z8 6=⟨true,0,0,0,999999999,true,0,0⟩ from rfl,c6 (show ¬((deep:Int)<1) by omega),a5H hf,M0,hf]
  simp only [M7,a8,N7 h1,N7 h2,N7 h3,N7 h4]
  rfl
theorem b6Y: ∀{d:Nat} {q:r5},I8 d q→∀(F deep:Nat),d≤deep→deep≤1000→d<F→H8 F q (deep:Int)=some true
 | 0,_,h,_,_,_,_,_=>by cases h
 | d+1,q,h,F,deep,h1,h2,hF=>by
  obtain⟨F,rfl⟩: ∃G,F=G+1:=⟨F-1,by omega⟩
  have kid: ∀k,I8 d k→H8 F k (A1 ((deep:Int)-1))=some true:=fun k hk=>by
   rw [V5 (by omega) (by omega)]
   exact b6Y hk F (deep-1) (by omega) (by omega) (by omega)
  cases h with
  | leaf h=>exact c18 F deep h (by omega)
  | @and _ ks h3 h4 h5=>
   rw [H8]
   dsimp only
   rw [show J3 7=true from rfl,show z8 7=⟨false,0,0,0,0,false,2,4⟩ from rfl,c6 (show ¬((deep:Int)<1) by omega)]
   simp only [M7,a8]
   rw [N7 (show (2:Int)≤ks.length by omega),N7 (show (ks.length:Int)≤4 by omega),a0k (p:=fun _=>true) (xs:=ks) (fun i x hx=>?_) ks.length 0 (by omega)]
   ·simp [C7]
   ·rw [n5,hx,a8,kid x (h5 x (l7 hx))];rfl
  | @or _ ks h3 h4 h5=>
   rw [H8]
   dsimp only
   rw [show J3 8=true from rfl,show z8 8=⟨false,0,0,0,0,false,2,4⟩ from rfl,c6 (show ¬((deep:Int)<1) by omega)]
   simp only [M7,a8]
   rw [N7 (show (2:Int)≤ks.length by omega),N7 (show (ks.length:Int)≤4 by omega),a0k (p:=fun _=>true) (xs:=ks) (fun i x hx=>?_) ks.length 0 (by omega)]
   ·simp [C7]
   ·rw [n5,hx,a8,kid x (h5 x (l7 hx))];rfl
  | @less _ a b h3 h4=>
   rw [H8]
   dsimp only
   rw [show J3 9=true from rfl,show z8 9=⟨false,0,0,0,0,false,2,2⟩ from rfl,c6 (show ¬((deep:Int)<1) by omega)]
   simp only [M7,a8]
   rw [a0k (p:=fun _=>true) (xs:=[a,b]) (fun i x hx=>?_) [a,b].length 0 (by omega)]
   ·rfl
   ·have hx':I8 d x:=by
     have:=l7 hx
     simp only [List.mem_cons,List.not_mem_nil,or_false] at this
     rcases this with rfl | rfl
     ·exact h3
     ·exact h4
    rw [n5,hx,a8,kid x hx'];rfl
  | @times _ n k h3 h4 h5=>
   rw [H8]
   dsimp only
   rw [show J3 10=true from rfl,show z8 10=⟨false,0,0,2,9,false,1,1⟩ from rfl,c6 (show ¬((deep:Int)<1) by omega)]
   simp only [M7,a8,N7 h3,N7 h4]
   rw [a0k (p:=fun _=>true) (xs:=[k]) (fun i x hx=>?_) [k].length 0 (by omega)]
   ·rfl
   ·have hx':I8 d x:=by
     have:=l7 hx
     simp only [List.mem_cons,List.not_mem_nil,or_false] at this
     rw [this];exact h5
    rw [n5,hx,a8,kid x hx'];rfl
theorem b4Y (F:Nat){d:Nat}{q:r5}(h:I8 d q)(hd:d≤4)(hF:10<F):X6 F q=some true:=by
 unfold X6
 have:=b6Y h F 4 hd (by omega) (by omega)
 rw [show ((4:Nat):Int)=4 from rfl] at this
 rw [this];rfl
theorem b57 (F:Nat)(ws:List q9)(most:Int)(hw: ∀w∈ws,D0 w=true)(hl:ws.length≤100)(hF:1000<F):O7 F ws most=some (decide (1≤(ws.length:Int))&&decide ((ws.length:Int)≤most)):=by
 unfold O7
 rw [a07 (fun _=>true) (xs:=ws) F (by omega) (fun i x hx=>?_) ?_]
 ·simp only [List.all_eq_true,implies_true,if_true,a8,Sum.elim_inl]
  rw [inS];rfl
 ·rw [c6 (by omega)];rfl
 ·have hi:=(i4.1 hx).1
  have hwx:=hw x (l7 hx)
  rw [b8 (by omega),i9,n5,hx,a8,Y8 F x 12 (N3 hwx) (by omega) (by omega),hwx,y2 (by omega)];rfl
theorem c3C (F:Nat){q:r5}(h:a4y q)(hF:1000<F):M9 F q=some true:=by
 have sw: ∀s:q9,D0 s=true→D6 F s=some true:=fun s hs=>by rw [Y8 F s 12 (N3 hs) (by omega) (by omega),hs]
 unfold M9
 cases h with
 | all=>rfl
 | @term f w hf hw=>
  simp only [E6,sw f hf,a8,b57 F [w] 1 (by simpa using hw) (by simp) hF]
  rfl
 | @phrase f ws n hf h1 h2 hw h3 h4=>
  simp only [E6,sw f hf,a8,b57 F ws 4 hw (by omega) hF,inS,N7 h3,N7 h4]
  rw [N7 (show (1:Int)≤ws.length by omega),N7 (show (ws.length:Int)≤4 by omega),b8 (show (1:Int)<ws.length by omega)]
  rfl
 | @near f w n hf hw h1 h2=>
  simp only [E6,sw f hf,a8,b57 F [w] 1 (by simpa using hw) (by simp) hF,inS,N7 h1,N7 h2]
  rfl
 | @glob f p hf hp hn=>
  have hpl:p.length≤12:=by
   simp only [a7B,l8,decide_eq_true_eq] at hp
   omega
  have g0:u0 [p] (0:Int)=some p:=rfl
  simp only [E6,sw f hf,a8,g0,b1E F p (by omega) (by omega),hp,Y8 F p 12 hpl (by omega) (by omega),hn]
  rfl
 | @range f a b hf h1 h2 h3 h4=>
  simp only [E6,sw f hf,a8,inS,N7 h1,N7 h2,N7 h3,N7 h4]
  rfl
theorem b6q: ∀{d:Nat} {q:r5},I8 d q→∀(F deep:Nat),d≤deep→deep≤1000→d+2000<F→L7 F q (deep:Int)=some true
 | 0,_,h,_,_,_,_,_=>by cases h
 | d+1,q,h,F,deep,h1,h2,hF=>by
  obtain⟨F,rfl⟩: ∃G,F=G+1:=⟨F-1,by omega⟩
  have kid: ∀k,I8 d k→L7 F k (A1 ((deep:Int)-1))=some true:=fun k hk=>by
   rw [V5 (by omega) (by omega)]
   exact b6q hk F (deep-1) (by omega) (by omega) (by omega)
  have fin: ∀ks:List r5,ks.length≤4→(∀k∈ks,I8 d k)→M9 F q=some true→q.Kids=ks→L7 (F+1) q (deep:Int)=some true:=fun ks hl hk ho hq=>by
   rw [L7]
   dsimp only
   rw [beq_eq_false_iff_ne.2 (show (deep:Int)≠0 by omega),i6,ho,a8,l9,a8,i6,hq,a07 (fun _=>true) (xs:=ks) F (by omega) (fun i x hx=>?_) ?_]
   ·simp
   ·rw [c6 (by omega)];rfl
   ·have hi:=(i4.1 hx).1
    rw [b8 (by omega),i9,n5,hx,a8,kid x (hk x (l7 hx)),y2 (by omega)];rfl
  cases h with
  | leaf h=>
   have hk:q.Kids=[]:=by cases h<;>rfl
   exact fin [] (by simp) (fun k hk=>by cases hk) (c3C F h (by omega)) hk
  | @and _ ks h3 h4 h5=>
   refine fin ks h4 h5 ?_ rfl
   unfold M9
   simp only [E6,a8,inS]
   rw [N7 (show (2:Int)≤ks.length by omega),N7 (show (ks.length:Int)≤4 by omega)]
   rfl
  | @or _ ks h3 h4 h5=>
   refine fin ks h4 h5 ?_ rfl
   unfold M9
   simp only [E6,a8,inS]
   rw [N7 (show (2:Int)≤ks.length by omega),N7 (show (ks.length:Int)≤4 by omega)]
   rfl
  | @less _ a b h3 h4=>
   refine fin [a,b] (by simp) (fun k hk=>?_) rfl rfl
   simp only [List.mem_cons,List.not_mem_nil,or_false] at hk
   rcases hk with rfl | rfl
   ·exact h3
   ·exact h4
  | @times _ n k h3 h4 h5=>
   refine fin [k] (by simp) (fun k hk=>?_) ?_ rfl
   ·simp only [List.mem_cons,List.not_mem_nil,or_false] at hk
    rw [hk];exact h5
   ·unfold M9
    simp only [E6,a8,inS,N7 h3,N7 h4]
    rfl
theorem b9p (F:Nat){d:Nat}{q:r5}(h:I8 d q)(hd:d≤4)(hF:3000<F):V9 F q=some true:=by
 unfold V9
 have:=b6q h F 4 hd (by omega) (by omega)
 rw [show ((4:Nat):Int)=4 from rfl] at this
 rw [this];rfl
end Go.Fk
set_option linter.unusedVariables false
namespace Go.Fk
open Go
def okN (n:Int):Bool:=decide (0≤n)&&decide (n≤999999999)
def upQ (l:List Int):Bool:=a1U okN (fun a b=>decide (a<b)) l&&decide ((l.length:Int)≤60)
theorem c1Y (F:Nat)(l:List Int)(hl:l.length<9000000000000000000):W9 F l=some (upQ l):=by
 unfold W9 upQ
 rw [a47 (ok:=okN) (lt:=fun a b=>decide (a<b)) (fun i x hx=>?_)]
 ·cases a1U okN (fun a b=>decide (a<b)) l<;>rfl
 ·have hi:=(i4.1 hx).1
  rw [n5,hx,a8,M7,a8]
  unfold okN
  cases (decide (0≤x)&&decide (x≤999999999)) with
  | false=>rfl
  | true=>
   rw [l9,i6,q8]
   by_cases h0:i=0
   ·subst h0;rfl
   ·rw [b8 (show (0:Int)<(i:Int) by omega),i9,V5 (by omega) (by omega),n5,j4 (show i-1<l.length by omega),a8,a8,c6 h0,Bool.false_or]
    show _=some (if decide (l[i-1]<x)=true then _ else _)
    rw [show decide (x≤l[i-1])= !decide (l[i-1]<x) by rw [a81];simp]
    cases decide (l[i-1]<x)<;>rfl
theorem c2K (F:Nat)(l:List Int)(hl:l.length≤1000)(hF:2000<F):a4A F l=some (upQ l):=by
 unfold a4A upQ
 rw [a5y (xs:=l) (ok:=okN) (lt:=fun a b=>decide (a<b)) (fun i x hx=>?_) ?_ F (by omega)]
 ·cases a1U okN (fun a b=>decide (a<b)) l<;>rfl
 ·rw [c6 (by omega)];rfl
 ·have hi:=(i4.1 hx).1
  rw [b8 (by omega),i9,n5,hx,a8,inS,a8]
  unfold okN
  cases (decide (0≤x)&&decide (x≤999999999)) with
  | false=>rfl
  | true=>
   rw [l9,i6,q8,y2 (by omega)]
   by_cases h0:i=0
   ·subst h0;rfl
   ·rw [b8 (show (0:Int)<(i:Int) by omega),i9,a8,V5 (by omega) (by omega),n5,j4 (show i-1<l.length by omega),a8,a8,c6 h0,Bool.false_or]
    show _=some (if decide (l[i-1]<x)=true then _ else _)
    rw [show decide (x≤l[i-1])= !decide (l[i-1]<x) by rw [a81];simp]
    cases decide (l[i-1]<x)<;>rfl
structure UpL (l:List Int):Prop where
 asc: ∀i j,(hi:i<l.length)→(hj:j<l.length)→i<j→l[i]<l[j]
 rng: ∀x∈l,0≤x∧x≤999999999
 few:l.length≤60
theorem c4G {l:List Int}(h:upQ l=true):UpL l:=by
 simp only [upQ,l8,decide_eq_true_eq] at h
 obtain⟨h1,h2⟩:=h
 obtain⟨k1,k2⟩:=a3Q h1
 refine⟨fun i j hi hj hij=>?_,fun x hx=>by simpa [okN] using k1 x hx,by omega⟩
 obtain⟨d,rfl⟩: ∃d,j=i+1+d:=⟨j-(i+1),by omega⟩
 clear hij
 induction d with
 | zero=>simpa using k2 i hj
 | succ d ih=>
  have:=ih (by omega)
  have k:=k2 (i+1+d) hj
  simp only [decide_eq_true_eq] at k
  exact Int.lt_trans this k
def b1v (l:List Int)(n:Int):Option Int:=l.find? fun x=>decide (n≤x)
theorem c0F (F:Nat)(l:List Int)(n:Int)(hu:UpL l)(hF:100<F):
  ∃(k:Nat) (b:Bool),N5 F l n=some ((k:Int),b)∧k≤l.length∧(∀t,(h:t<l.length)→t<k→l[t]<n)∧∀t,(h:t<l.length)→k≤t→n≤l[t]:=by
 have hf:=hu.few
 unfold N5
 obtain⟨t,ht,k,rfl,h1,h2,h3⟩:=H4 (σ:=Int×Int) (τ:=Int) (f:=fun (s14:Int×Int)=>(cond (decide (s14.1<s14.2)) (Option.bind (nnI (A1 (s14.1+s14.2))) fun x29=>(Option.bind (b7p x29 (1:Int)) fun x32=>(Option.bind (u0 l x32) fun x35=>(Option.bind (a0D F x35 n) fun r45=>(cond r45 (some (.inl ((A1 (x32+(1:Int))),s14.2))) (some (.inl (s14.1,x32)))))))) (some (.inr s14.1))))
  (Post:=fun t=>∃k:Nat,t=(k:Int)∧k≤l.length∧(∀t,(h:t<l.length)→t<k→l[t]<n)∧∀t,(h:t<l.length)→k≤t→n≤l[t])
  (fun c s=>∃i j:Nat,s=((i:Int),(j:Int))∧i≤j∧j≤l.length∧j-i≤l.length-c∧(∀t,(h:t<l.length)→t<i→l[t]<n)∧∀t,(h:t<l.length)→j≤t→n≤l[t]) (l.length+1)
  (fun c s _ hI=>by
   obtain⟨i,j,rfl,h1,h2,h3,h4,h5⟩:=hI
   by_cases hij:i<j
   ·left
    have hm:(i+j)/2<l.length:=by omega
    have e1:nnI (A1 ((i:Int)+(j:Int)))=some ((i+j:Nat):Int):=by rw [B9 ⟨by omega,by omega⟩,nnI,if_pos (by omega)];rfl
    have e2:b7p ((i+j:Nat):Int) 1=some (((i+j)/2:Nat):Int):=by
     unfold b7p
     rw [if_neg (by omega)]
     show some (Int.fdiv ((i+j:Nat):Int) 2)=_
     rw [Int.fdiv_eq_ediv_of_nonneg _ (by omega)];rfl
    have e3:a0D F l[(i+j)/2] n=some (decide (l[(i+j)/2]<n)):=by
     unfold a0D O6
     simp
    dsimp only
    rw [b8 (by omega),i9,e1,a8,e2,a8,a0m hm,a8,e3,a8]
    by_cases hlt:l[(i+j)/2]<n
    ·refine⟨(((i+j)/2+1:Nat),(j:Int)),?_,(i+j)/2+1,j,rfl,by omega,h2,by omega,fun t ht htm=>?_,h5⟩
     ·rw [b8 hlt,i9,y2 (by omega)]
     ·rcases Nat.lt_or_ge t ((i+j)/2) with h | h
      ·exact Int.lt_trans (hu.asc t _ ht hm h) hlt
      ·obtain rfl:t=(i+j)/2:=by omega
       exact hlt
    ·refine⟨((i:Int),(((i+j)/2:Nat):Int)),?_,i,(i+j)/2,rfl,by omega,by omega,by omega,h4,fun t ht htm=>?_⟩
     ·rw [c6 hlt,i6]
     ·rcases Nat.lt_or_ge ((i+j)/2) t with h | h
      ·exact Int.le_of_lt (Int.lt_of_le_of_lt (Int.not_lt.1 hlt) (hu.asc _ t hm ht h))
      ·obtain rfl:t=(i+j)/2:=by omega
       exact Int.not_lt.1 hlt
   ·right
    refine⟨(i:Int),?_,i,rfl,by omega,h4,fun t ht hti=>h5 t ht (by omega)⟩
    dsimp only
    rw [c6 (by omega),i6])
  (fun s hI=>by
   obtain⟨i,j,rfl,h1,h2,h3,h4,h5⟩:=hI
   refine⟨(i:Int),?_,i,rfl,by omega,h4,fun t ht hti=>h5 t ht (by omega)⟩
   dsimp only
   rw [c6 (by omega),i6]) (l.length+1) 0 ((0:Int),(l.length:Int)) F (by omega) (by omega)
  ⟨0,l.length,rfl,Nat.zero_le _,Nat.le_refl _,by omega,fun t _ h=>by omega,fun t h h'=>by omega⟩
 rw [ht,a8,a8]
 by_cases hk:k<l.length
 ·rw [b8 (by omega),i9,a0m hk,a8]
  cases (l[k]==n)
  ·rw [i6,a8]
   unfold X9
   rw [beq_self_eq_true,a8]
   exact⟨k,false,rfl,h1,h2,h3⟩
  ·exact⟨k,true,rfl,h1,h2,h3⟩
 ·rw [c6 (by omega),i6]
  exact⟨k,false,rfl,h1,h2,h3⟩
theorem c3z (F:Nat)(l:List Int)(n:Int)(hu:UpL l)(hF:100<F):a4z F l n=some ((b1v l n).elim (0,false) fun x=>(x,true)):=by
 obtain⟨k,b,hs,h1,h2,h3⟩:=c0F F l n hu hF
 unfold a4z b1v
 rw [hs,a8]
 dsimp only
 by_cases hk:k=l.length
 ·rw [beq_iff_eq.2 (by omega),i9,List.find?_eq_none.2 fun x hx=>?_]
  ·rfl
  ·obtain⟨i,hi,rfl⟩:=List.mem_iff_getElem.1 hx
   have:=h2 i hi (by omega)
   simp;omega
 ·have hk':k<l.length:=by omega
  have hf:l.find? (fun x=>decide (n≤x))=some l[k]:=List.find?_eq_some_iff_getElem.2 ⟨by simpa using h3 k hk' (Nat.le_refl _),k,hk',rfl,fun j hj=>by have:=h2 j (by omega) hj;simp;omega⟩
  rw [beq_eq_false_iff_ne.2 (by omega),i6,a0m hk',a8,hf]
  rfl
def a1R:List (List Int)→Int→Int→Bool
 | [],last,b=>decide (last≤b)
 | l::r,last,b=>l.any fun x=>decide (last<x)&&a1R r x b
theorem c0a: ∀(r:List (List Int)) {x y b:Int},x≤y→a1R r y b=true→a1R r x b=true
 | [],x,y,b,h,e=>by simp only [a1R,decide_eq_true_eq] at e ⊢;omega
 | l::r,x,y,b,h,e=>by
  simp only [a1R,List.any_eq_true,l8,decide_eq_true_eq] at e ⊢
  obtain⟨z,hz,h1,h2⟩:=e
  exact⟨z,hz,by omega,h2⟩
theorem c0b {l:List Int}(hu:UpL l)(r:List (List Int))(last b:Int):a1R (l::r) last b=(b1v l (last+1)).elim false fun x=>a1R r x b:=by
 unfold b1v
 cases hf:l.find? fun x=>decide (last+1≤x) with
 | none=>
  have:=List.find?_eq_none.1 hf
  simp only [Option.elim,a1R]
  rw [Bool.eq_false_iff]
  intro h
  simp only [List.any_eq_true,l8,decide_eq_true_eq] at h
  obtain⟨x,hx,h1,_⟩:=h
  have:=this x hx
  simp at this;omega
 | some m=>
  obtain⟨h1,k,hk,rfl,h2⟩:=List.find?_eq_some_iff_getElem.1 hf
  simp only [decide_eq_true_eq] at h1
  simp only [Option.elim]
  rw [Bool.eq_iff_iff]
  simp only [a1R,List.any_eq_true,l8,decide_eq_true_eq]
  constructor
  ·rintro⟨x,hx,h3,h4⟩
   obtain⟨i,hi,rfl⟩:=List.mem_iff_getElem.1 hx
   refine c0a r ?_ h4
   rcases Nat.lt_trichotomy k i with h | h | h
   ·exact Int.le_of_lt (hu.asc k i hk hi h)
   ·subst h;exact Int.le_refl _
   ·have:=h2 i h
    simp at this;omega
  ·intro h
   exact⟨l[k],List.getElem_mem hk,by omega,h⟩
def a8e (s:Int×Bool)(l:List Int):Int×Bool:=((b1v l (A1 (s.1+1))).elim 0 id,s.2&&(b1v l (A1 (s.1+1))).isSome)
theorem b3S: ∀(r:List (List Int)) (x:Int),(r.foldl a8e (x,false)).2=false
 | [],x=>rfl
 | l::r,x=>by rw [List.foldl_cons];exact b3S r _
theorem b4A (b:Int): ∀(r:List (List Int)) (x:Int),(∀l∈r,UpL l)→0≤x→x≤999999999→((r.foldl a8e (x,true)).2&&decide ((r.foldl a8e (x,true)).1≤b))=a1R r x b
 | [],x,_,_,_=>by rw [List.foldl_nil,q8,a1R]
 | l::r,x,hu,h0,h1=>by
  rw [List.foldl_cons,c0b (hu l (.head _))]
  have hw:A1 (x+1)=x+1:=B9 ⟨by omega,by omega⟩
  cases hn:b1v l (x+1) with
  | none=>
   have e:a8e (x,true) l=(0,false):=by
    unfold a8e
    dsimp only
    rw [hw,hn];rfl
   rw [e,b3S];rfl
  | some m=>
   have hm:=(hu l (.head _)).rng m (List.mem_of_find?_eq_some hn)
   have e:a8e (x,true) l=(m,true):=by
    unfold a8e
    dsimp only
    rw [hw,hn];rfl
   rw [e]
   exact b4A b r m (fun q hq=>hu q (.tail _ hq)) hm.1 hm.2
def a5P (lists:List (List Int))(slop:Int):List Int:=
 if lists.all upQ&&(decide (1≤(lists.length:Int))&&decide ((lists.length:Int)≤6))&&(decide (0≤slop)&&decide (slop≤5)) then (lists.headD []).filter fun p=>a1R lists.tail p (p+lists.length-1+slop) else []
theorem c6U {α:Type}{ws:List α}{p:α→Bool}{f:Nat→List α→Option (List α)}(hl:ws.length≤1000)
  (h: ∀(i:Nat) w (out:List α),ws[i]? =some w→out.length≤1000→f i out=some (if p w then out++[w] else out)):U6 f ws.length 0 []=some (ws.filter p):=c6T hl h
theorem b35 (F:Nat)(lists:List (List Int))(slop:Int)(hl: ∀l∈lists,l.length≤1000)(hn:lists.length≤1000)(hF:2000<F):a1j F lists slop=some (a5P lists slop):=by
 unfold a1j a27 a3C a5P
 cases hne:lists with
 | nil=>rfl
 | cons l0 r=>
  rw [←hne,b8 (by rw [hne];simp only [r4];omega),i9,a0k (p:=upQ) (xs:=lists) (fun i x hx=>?_) lists.length 0 (by omega),List.drop_zero]
  ·cases ha:lists.all upQ with
   | false=>rfl
   | true=>
    have hup: ∀l∈lists,UpL l:=fun l hlm=>c4G (List.all_eq_true.1 ha l hlm)
    simp only [if_true,a8,Sum.elim_inl,q8]
    rw [b8 (show (1:Int)≤(lists.length:Int) by rw [hne];simp only [r4];omega),q8]
    by_cases h6:(lists.length:Int)≤6
    ·rw [b8 h6,l9,i6,M7,a8,a8,q8]
     cases hs:(decide (0≤slop)&&decide (slop≤5)) with
     | false=>rfl
     | true=>
      simp only [l8,decide_eq_true_eq] at hs
      rw [l9,i6,if_pos rfl]
      have hg:u0 lists (0:Int)=some l0:=by rw [hne];rfl
      have hm0:l0∈lists:=by rw [hne];exact .head _
      have htl:Y9 lists 1 (lists.length:Int)=some r:=by
       rw [hne]
       unfold Y9
       rw [if_pos ⟨by omega,by simp only [r4];omega,by omega⟩]
       simp
      rw [hg,a8,c6U (p:=fun p=>a1R r p (p+lists.length-1+slop)) (hl l0 hm0) (fun i w out hw ho=>?_)]
      ·rw [hne];rfl
      ·have hwm:=l7 hw
       have hwr:=(hup l0 hm0).rng w hwm
       rw [n5,hw,a8,htl,a8,a8m (xs:=r) a8e (fun j x s hx=>?_),a8,a8]
       ·have hb:A1 (A1 (A1 (w+(lists.length:Int))-1)+slop)=w+lists.length-1+slop:=by
         rw [B9 (n:=w+(lists.length:Int)) ⟨by omega,by omega⟩,B9 (n:=w+(lists.length:Int)-1) ⟨by omega,by omega⟩,B9 ⟨by omega,by omega⟩]
        have hff:=b4A (w+lists.length-1+slop) r w (fun l h=>hup l (by rw [hne];exact .tail _ h)) hwr.1 hwr.2
        rw [hb,←hff]
        cases (r.foldl a8e (w,true)).2
        ·rfl
        ·rw [i9,a8,q8,F1 (by simp only [j9];omega)]
         cases decide ((r.foldl a8e (w,true)).1≤w+lists.length-1+slop)<;>rfl
       ·have hxu:=hup x (by rw [hne];exact .tail _ (l7 hx))
        rw [n5,hx,a8,c3z F x _ hxu (by omega),a8]
        unfold a8e
        cases b1v x (A1 (s.1+1))<;>cases s.2<;>rfl
    ·rw [c6 h6];rfl
  ·rw [n5,hx,a8,c1Y F x (by have:=hl x (l7 hx);omega),a8]
   cases upQ x<;>rfl
theorem c0L (F:Nat)(lists:List (List Int))(slop start:Int)(hu: ∀l∈lists,UpL l)(hn:lists.length≤6)(hs:0≤slop∧slop≤5)(h0:0≤start∧start≤999999999):
  ∀(k:Nat) (last:Int) (G:Nat),k≤lists.length→100+(lists.length-k)<G→0≤last→last≤999999999→X1 G lists (k:Int) last start slop=some (a1R (lists.drop k) last (start+lists.length-1+slop)):=by
 intro k
 induction hk:lists.length-k generalizing k with
 | zero=>
  intro last G hkl hG h1 h2
  obtain⟨G,rfl⟩: ∃g,G=g+1:=⟨G-1,by omega⟩
  obtain rfl:k=lists.length:=by omega
  rw [X1]
  dsimp only
  rw [beq_self_eq_true,i9,a8,List.drop_length,a1R,B9 (n:=last-start) ⟨by omega,by omega⟩,B9 (n:=(lists.length:Int)-1) ⟨by omega,by omega⟩,B9 ⟨by omega,by omega⟩]
  congr 1
  rw [decide_eq_decide]
  omega
 | succ d ih=>
  intro last G hkl hG h1 h2
  obtain⟨G,rfl⟩: ∃g,G=g+1:=⟨G-1,by omega⟩
  have hkl':k<lists.length:=by omega
  have hlu:=hu _ (List.getElem_mem hkl')
  have hfew:=hlu.few
  rw [X1]
  dsimp only
  rw [beq_eq_false_iff_ne.2 (by omega),i6,List.drop_eq_getElem_cons hkl',a1b (xs:=lists[k]) (fun x=>decide (last<x)&&a1R (lists.drop (k+1)) x (start+lists.length-1+slop)) (fun _=>(Sum.inr true:Unit⊕Bool)) (e:=Sum.inl ()) G (by omega) (fun i x hx=>?_) ?_]
  ·rw [a1R]
   cases hf:lists[k].find? fun x=>decide (last<x)&&a1R (lists.drop (k+1)) x (start+lists.length-1+slop) with
   | none=>
    have:(lists[k].any fun x=>decide (last<x)&&a1R (lists.drop (k+1)) x (start+lists.length-1+slop))=false:=by
     rw [List.any_eq_false]
     exact List.find?_eq_none.1 hf
    rw [this];rfl
   | some m=>
    have:(lists[k].any fun x=>decide (last<x)&&a1R (lists.drop (k+1)) x (start+lists.length-1+slop))=true:=by
     rw [List.any_eq_true]
     exact⟨m,List.mem_of_find?_eq_some hf,List.find?_some (p:=fun x=>decide (last<x)&&a1R (lists.drop (k+1)) x (start+lists.length-1+slop)) hf⟩
    rw [this];rfl
  ·rw [a0m hkl',a8,c6 (by omega)];rfl
  ·have hi:=(i4.1 hx).1
   have hxr:=hlu.rng x (l7 hx)
   rw [a0m hkl',a8,b8 (by omega),i9,a8,n5,hx,a8]
   cases hlt:decide (last<x) with
   | false=>
    rw [i6,a8,i6,y2 (by omega)];rfl
   | true=>
    rw [i9,a8,n5,hx,a8,y2 (by omega),ih (k+1) (by omega) x G (by omega) (by omega) hxr.1 hxr.2,a8,a8,y2 (by omega),q8]
    cases a1R (lists.drop (k+1)) x (start+lists.length-1+slop)<;>rfl
theorem b4m (F:Nat)(lists:List (List Int))(slop:Int)(hl: ∀l∈lists,l.length≤1000)(hn:lists.length≤1000)(hF:2000<F):a1p F lists slop=some (a5P lists slop):=by
 unfold a1p a5P
 rw [a1b (xs:=lists) (fun l=> !upQ l) (fun _=>(Sum.inr []:Unit⊕List Int)) (e:=Sum.inl ()) F (by omega) (fun i x hx=>?_) ?_]
 ·cases hf:lists.find? fun l=> !upQ l with
  | some m=>
   have:lists.all upQ=false:=by
    rw [List.all_eq_false]
    exact⟨m,List.mem_of_find?_eq_some hf,by have:=List.find?_some hf;simpa using this⟩
   rw [this];rfl
  | none=>
   have ha:lists.all upQ=true:=by
    rw [List.all_eq_true]
    intro x hx
    have:=List.find?_eq_none.1 hf x hx
    simpa using this
   have hup: ∀l∈lists,UpL l:=fun l hlm=>c4G (List.all_eq_true.1 ha l hlm)
   simp only [Option.elim,a8,Sum.elim_inl]
   rw [ha,inS,a8,q8]
   cases h6:(decide (1≤(lists.length:Int))&&decide ((lists.length:Int)≤6)) with
   | false=>rfl
   | true=>
    simp only [l8,decide_eq_true_eq] at h6
    rw [l9,i6,inS,a8,a8,q8]
    cases hs:(decide (0≤slop)&&decide (slop≤5)) with
    | false=>rfl
    | true=>
     simp only [l8,decide_eq_true_eq] at hs
     rw [l9,i6,if_pos rfl]
     obtain⟨l0,r,hne⟩: ∃l0 r,lists=l0::r:=by
      cases lists with
      | nil=>simp at h6
      | cons l0 r=>exact⟨l0,r,rfl⟩
     have hg:u0 lists (0:Int)=some l0:=by rw [hne];rfl
     have hm0:l0∈lists:=by rw [hne];exact .head _
     have hl0:=hl l0 hm0
     rw [c6V (ws:=l0) (p:=fun p=>a1R r p (p+lists.length-1+slop)) hl0 (fun i w out hw ho=>?_) (fun out=>?_) F (by omega)]
     ·rw [hne];rfl
     ·have hi:=(i4.1 hw).1
      have hwr:=(hup l0 hm0).rng w (l7 hw)
      dsimp only
      rw [hg,a8,b8 (by omega),i9]
      simp only [a8,n5,hw]
      have:=c0L F lists slop w hup (by omega) hs hwr 1 w F (by omega) (by omega) hwr.1 hwr.2
      rw [show ((1:Nat):Int)=1 from rfl] at this
      rw [this,a8,show lists.drop 1=r by rw [hne];rfl,y2 (by omega),F1 (by simp only [j9];omega)]
      cases a1R r w (w+lists.length-1+slop)<;>rfl
     ·rw [hg,a8,c6 (by omega)];rfl
 ·rw [c6 (by omega)];rfl
 ·have hi:=(i4.1 hx).1
  rw [b8 (by omega),i9,n5,hx,a8,c2K F x (hl x (l7 hx)) (by omega),a8,y2 (by omega)]
  cases upQ x<;>rfl
end Go.Fk
set_option linter.unusedVariables false
namespace Go.Fk
open Go
def b0D (a b:q9):Nat→Nat→Int
 | 0,j=>(j:Int)
 | i+1,0=>((i+1:Nat):Int)
 | i+1,j+1=>
  let c:=b0D a b i j+if a[i]? =b[j]? then 0 else 1
  let u:=b0D a b i (j+1)+1
  let v:=b0D a b (i+1) j+1
  if v<(if u<c then u else c) then v else (if u<c then u else c)
def b33 (a b:q9):Int:=b0D a b a.length b.length
def a7m (a b:q9)(i j:Nat)(v:Int):Prop:=0≤v∧v≤(i:Int)+j∧v=b0D a b i j
theorem b6A (a b:q9)(j:Nat):a7m a b 0 j (j:Int):=⟨by omega,by omega,by rw [b0D]⟩
theorem b6z (a b:q9)(i:Nat):a7m a b (i+1) 0 ((i+1:Nat):Int):=⟨by omega,by omega,by rw [b0D]⟩
theorem b4z {a b:q9}{i j:Nat}{x y:UInt8}{c u v:Int}(hi:a[i]? =some x)(hj:b[j]? =some y)(hc:a7m a b i j c)(hu:a7m a b i (j+1) u)(hv:a7m a b (i+1) j v):
  a7m a b (i+1) (j+1) (if v+1<(if u+1<(c+if x=y then 0 else 1) then u+1 else (c+if x=y then 0 else 1)) then v+1 else (if u+1<(c+if x=y then 0 else 1) then u+1 else (c+if x=y then 0 else 1))):=by
 have h1:=hc.1;have h2:=hu.1;have h3:=hv.1
 have k1:=hc.2.1;have k2:=hu.2.1;have k3:=hv.2.1
 have hxy:(if a[i]? =b[j]? then (0:Int) else 1)=if x=y then 0 else 1:=by
  rw [hi,hj]
  by_cases h:x=y
  ·rw [if_pos h,if_pos (by rw [h])]
  ·rw [if_neg h,if_neg (by simpa using h)]
 refine⟨?_,?_,?_⟩
 ·split<;>split at * <;>split at * <;>omega
 ·split<;>split at * <;>split at * <;>omega
 ·rw [b0D,hxy,←hc.2.2,←hu.2.2,←hv.2.2]
theorem c16 (F:Nat)(a b:q9)(ha:D0 a=true)(hb:D0 b=true)(hF:100<F):a0E F a b=some (b33 a b):=by
 have la:=N3 ha
 have lb:=N3 hb
 unfold a0E
 rw [M0,ha,a8,l9,i6,M0,hb,a8,l9,a8,i6,y2 (by omega)]
 unfold b4O
 rw [if_pos ⟨by omega,by omega⟩,a8,Int.toNat_natCast]
 -- the first row
 have key0:=fun f step=>a6r (σ:=List Int) (f:=f) (fun k row=>row.length=b.length+1∧∀j,j<k→row[j]? =some (j:Int)) (List.replicate (b.length+1) (0:Int)).length step (List.replicate (b.length+1) (0:Int)).length 0 (List.replicate (b.length+1) (0:Int)) (by omega) ⟨by simp,fun j h=>by omega⟩
 generalize hf0:(fun (i55:Nat) (s51:(List Int))=>_:Nat→List Int→Option (List Int))=f0
 obtain⟨row0,hr0,hl0,hv0⟩:=key0 f0 (fun i s hi hs=>by
  subst hf0
  obtain⟨h1,h2⟩:=hs
  simp only [List.length_replicate] at hi
  dsimp only
  rw [n5,j4 (show i<s.length by omega),a8,Int.toNat_natCast]
  refine⟨_,rfl,by simp [h1],fun j hj=>?_⟩
  rw [List.getElem?_set]
  by_cases hij:i=j
  ·subst hij;rw [if_pos rfl,if_pos (by omega)]
  ·rw [if_neg hij];exact h2 j (by omega))
 simp only [List.length_replicate] at hr0 hv0
 rw [List.length_replicate,hr0,a8,a8]
 -- the rows
 have key:=fun f step fin=>H4 (σ:=Int×List Int) (τ:=List Int) (f:=f) (Post:=fun t=>∃v,t[b.length]? =some v∧a7m a b a.length b.length v)
  (fun i s=>s.1=((i+1:Nat):Int)∧s.2.length=b.length+1∧∀j,j≤b.length→∃v,s.2[j]? =some v∧a7m a b i j v) a.length step fin a.length 0 ((1:Int),row0) F (by omega) (by omega)
  ⟨rfl,hl0,fun j hj=>⟨(j:Int),hv0 j (by omega),b6A a b j⟩⟩
 generalize hf:(fun (s91:Int×(List Int))=>_:Int×List Int→Option ((Int×List Int)⊕(List Int)))=f
 obtain⟨t,ht,v,hv,hp⟩:=key f (fun i s hi hs=>by
  subst hf
  obtain⟨s1,row⟩:=s
  obtain⟨h1,h2,h3⟩:=hs
  simp only at h1 h2 h3
  subst h1
  dsimp only
  obtain⟨c0,hc0,hc0p⟩:=h3 0 (by omega)
  rw [b8 (by omega),i9,show (0:Int)=((0:Nat):Int) from rfl,n5,hc0,a8,a8,Int.toNat_natCast]
  have key2:=fun g step2 fin2=>H4 (σ:=Int×Int×List Int) (τ:=List Int) (f:=g) (Post:=fun t=>t.length=b.length+1∧∀j,j≤b.length→∃v,t[j]? =some v∧a7m a b (i+1) j v)
   (fun k s=>s.2.1=((k+1:Nat):Int)∧a7m a b i k s.1∧s.2.2.length=b.length+1∧(∀j,j≤k→∃v,s.2.2[j]? =some v∧a7m a b (i+1) j v)∧∀j,k<j→j≤b.length→∃v,s.2.2[j]? =some v∧a7m a b i j v)
   b.length step2 fin2 b.length 0 (c0,(1:Int),row.set 0 ((i+1:Nat):Int)) F (by omega) (by omega)
   ⟨rfl,hc0p,by simp [h2],fun j hj=>⟨((i+1:Nat):Int),by
    have:j=0:=by omega
    subst this
    rw [List.getElem?_set,if_pos rfl,if_pos (by omega)],by
    have:j=0:=by omega
    subst this
    exact b6z a b i⟩,fun j hj hj2=>by
    obtain⟨v,hv,hp⟩:=h3 j hj2
    exact⟨v,by simp only;rw [List.getElem?_set,if_neg (by omega)];exact hv,hp⟩⟩
  generalize hg:(fun (s139:Int×Int×(List Int))=>_:Int×Int×List Int→Option ((Int×Int×List Int)⊕(List Int)))=g
  obtain⟨t,ht,hp1,hp2⟩:=key2 g (fun k s hk hs=>by
   subst hg
   obtain⟨cr,s1,row⟩:=s
   obtain⟨q1,q2,q3,q4,q5⟩:=hs
   simp only at q1 q2 q3 q4 q5
   subst q1
   dsimp only
   have hax:a[i]? =some a[i]:=j4 hi
   have hbx:b[k]? =some b[k]:=j4 hk
   obtain⟨u,hu,hup⟩:=q5 (k+1) (by omega) (by omega)
   obtain⟨w,hw,hwp⟩:=q4 k (by omega)
   have e1:A1 (((i+1:Nat):Int)-1)=(i:Int):=by rw [B9 ⟨by omega,by omega⟩];omega
   have e2:A1 (((k+1:Nat):Int)-1)=(k:Int):=by rw [B9 ⟨by omega,by omega⟩];omega
   have b1:=q2.1;have b2:=q2.2.1;have b3:=hup.1;have b4:=hup.2.1;have b5:=hwp.1;have b6:=hwp.2.1
   rw [b8 (by omega),i9,e1,e2,n5,hax,a8,n5,hbx,a8]
   have hcost:(cond (!(a[i]==b[k])) (some (A1 (cr+(1:Int)))) (some cr):Option Int)=some (cr+if a[i]=b[k] then 0 else 1):=by
    by_cases h:a[i]=b[k]
    ·rw [if_pos h,show (a[i]==b[k])=true from beq_iff_eq.2 h];simp
    ·rw [if_neg h,beq_eq_false_iff_ne.2 h,B9 ⟨by omega,by omega⟩];rfl
   rw [hcost,a8,n5,hu,a8,a8,n5,hw,a8,a8,y2 (by omega),B9 (n:=u+1) ⟨by omega,by omega⟩,B9 (n:=w+1) ⟨by omega,by omega⟩,Int.toNat_natCast]
   have hst:=b4z hax hbx q2 hup hwp
   refine .inl ⟨_,rfl,rfl,hup,by simp [q3],fun j hj=>?_,fun j hj hj2=>?_⟩
   ·simp only
    rw [List.getElem?_set]
    by_cases hjk:k+1=j
    ·subst hjk
     rw [if_pos rfl,if_pos (by omega)]
     exact⟨_,rfl,hst⟩
    ·rw [if_neg hjk]
     exact q4 j (by omega)
   ·simp only
    rw [List.getElem?_set,if_neg (by omega)]
    exact q5 j (by omega) hj2) (fun s hs=>by
   subst hg
   obtain⟨cr,s1,row⟩:=s
   obtain⟨q1,q2,q3,q4,q5⟩:=hs
   simp only at q1 q2 q3 q4 q5
   subst q1
   dsimp only
   rw [c6 (by omega),i6]
   exact⟨_,rfl,q3,q4⟩)
  have ht':v8 g F (c0,(1:Int),row.set 0 ((i+1:Nat):Int))=some t:=ht
  rw [ht',a8,a8,y2 (by omega)]
  exact .inl ⟨_,rfl,rfl,hp1,hp2⟩) (fun s hs=>by
  subst hf
  obtain⟨s1,row⟩:=s
  obtain⟨h1,h2,h3⟩:=hs
  simp only at h1 h2 h3
  subst h1
  dsimp only
  rw [c6 (by omega),i6]
  exact⟨_,rfl,h3 b.length (Nat.le_refl _)⟩)
 rw [ht,a8,a8,n5,hv]
 rw [hp.2.2];rfl
theorem c5c (F:Nat)(p q:Int):W0 F p q=some (if p<q then p else q):=by
 unfold W0
 by_cases h:p<q
 ·rw [b8 h,if_pos h];rfl
 ·rw [c6 h,if_neg h];rfl
theorem c5b (c u v:Int):(if c<(if v<u then v else u)+1 then c else (if v<u then v else u)+1)=if v+1<(if u+1<c then u+1 else c) then v+1 else (if u+1<c then u+1 else c):=by
 split<;>split<;>split<;>(try split at *)<;>omega
theorem c2F (F:Nat)(a b:q9)(la:a.length≤1000)(lb:b.length≤1000)(hF:2000<F):a3F F a b=some (b33 a b):=by
 unfold a3F
 rw [y2 (by omega)]
 unfold b4O
 rw [if_pos ⟨by omega,by omega⟩,a8,Int.toNat_natCast]
 have key0:=fun f step fin=>H4 (σ:=Int×List Int) (τ:=List Int) (f:=f) (Post:=fun t=>t.length=b.length+1∧∀j,j≤b.length→t[j]? =some (j:Int)) (fun k s=>s.1=(k:Int)∧s.2.length=b.length+1∧∀j,j<k→s.2[j]? =some (j:Int)) (b.length+1) step fin (b.length+1) 0 ((0:Int),List.replicate (b.length+1) (0:Int)) F (by omega) (by omega) ⟨rfl,by simp,fun j h=>by omega⟩
 generalize hf0:(fun (s24:Int×(List Int))=>_:Int×List Int→Option ((Int×List Int)⊕(List Int)))=f0
 obtain⟨row0,hr0,hl0,hv0⟩:=key0 f0 (fun i s hi hs=>by
  subst hf0
  obtain⟨s1,row⟩:=s
  obtain⟨h0,h1,h2⟩:=hs
  simp only at h0 h1 h2
  subst h0
  dsimp only
  rw [b8 (by omega),i9,n5,j4 (show i<row.length by omega),a8,Int.toNat_natCast,y2 (by omega)]
  refine .inl ⟨_,rfl,rfl,by simp [h1],fun j hj=>?_⟩
  simp only
  rw [List.getElem?_set]
  by_cases hij:i=j
  ·subst hij;rw [if_pos rfl,if_pos (by omega)]
  ·rw [if_neg hij];exact h2 j (by omega)) (fun s hs=>by
  subst hf0
  obtain⟨s1,row⟩:=s
  obtain⟨h0,h1,h2⟩:=hs
  simp only at h0 h1 h2
  subst h0
  dsimp only
  rw [c6 (by omega),i6]
  exact⟨_,rfl,h1,fun j hj=>h2 j (by omega)⟩)
 rw [hr0,a8,a8]
 have key:=fun f step fin=>H4 (σ:=Int×List Int) (τ:=List Int) (f:=f) (Post:=fun t=>∃v,t[b.length]? =some v∧a7m a b a.length b.length v)
  (fun i s=>s.1=(i:Int)∧s.2.length=b.length+1∧∀j,j≤b.length→∃v,s.2[j]? =some v∧a7m a b i j v) a.length step fin a.length 0 ((0:Int),row0) F (by omega) (by omega)
  ⟨rfl,hl0,fun j hj=>⟨(j:Int),hv0 j (by omega),b6A a b j⟩⟩
 generalize hf:(fun (s65:Int×(List Int))=>_:Int×List Int→Option ((Int×List Int)⊕(List Int)))=f
 obtain⟨t,ht,v,hv,hp⟩:=key f (fun i s hi hs=>by
  subst hf
  obtain⟨s1,row⟩:=s
  obtain⟨h1,h2,h3⟩:=hs
  simp only at h1 h2 h3
  subst h1
  dsimp only
  obtain⟨c0,hc0,hc0p⟩:=h3 0 (by omega)
  have hg0:u0 row (0:Int)=some c0:=by rw [show (0:Int)=((0:Nat):Int) from rfl,n5,hc0]
  rw [b8 (by omega),i9,hg0,a8,a8,y2 (by omega),show ((0:Int)).toNat=0 from rfl]
  have key2:=fun g step2 fin2=>H4 (σ:=Int×Int×List Int) (τ:=List Int) (f:=g) (Post:=fun t=>t.length=b.length+1∧∀j,j≤b.length→∃v,t[j]? =some v∧a7m a b (i+1) j v)
   (fun k s=>s.2.1=(k:Int)∧a7m a b i k s.1∧s.2.2.length=b.length+1∧(∀j,j≤k→∃v,s.2.2[j]? =some v∧a7m a b (i+1) j v)∧∀j,k<j→j≤b.length→∃v,s.2.2[j]? =some v∧a7m a b i j v)
   b.length step2 fin2 b.length 0 (c0,(0:Int),row.set 0 ((i+1:Nat):Int)) F (by omega) (by omega)
   ⟨rfl,hc0p,by simp [h2],fun j hj=>⟨((i+1:Nat):Int),by
    have:j=0:=by omega
    subst this
    rw [List.getElem?_set,if_pos rfl,if_pos (by omega)],by
    have:j=0:=by omega
    subst this
    exact b6z a b i⟩,fun j hj hj2=>by
    obtain⟨v,hv,hp⟩:=h3 j hj2
    exact⟨v,by simp only;rw [List.getElem?_set,if_neg (by omega)];exact hv,hp⟩⟩
  generalize hg:(fun (s113:Int×Int×(List Int))=>_:Int×Int×List Int→Option ((Int×Int×List Int)⊕(List Int)))=g
  obtain⟨t,ht,hp1,hp2⟩:=key2 g (fun k s hk hs=>by
   subst hg
   obtain⟨cr,s1,row⟩:=s
   obtain⟨q1,q2,q3,q4,q5⟩:=hs
   simp only at q1 q2 q3 q4 q5
   subst q1
   dsimp only
   have hax:a[i]? =some a[i]:=j4 hi
   have hbx:b[k]? =some b[k]:=j4 hk
   obtain⟨u,hu,hup⟩:=q5 (k+1) (by omega) (by omega)
   obtain⟨w,hw,hwp⟩:=q4 k (by omega)
   have b1:=q2.1;have b2:=q2.2.1;have b3:=hup.1;have b4:=hup.2.1;have b5:=hwp.1;have b6:=hwp.2.1
   rw [b8 (by omega),i9,n5,hax,a8,n5,hbx,a8]
   have hcost:(cond (!(a[i]==b[k])) (some (A1 (cr+(1:Int)))) (some cr):Option Int)=some (cr+if a[i]=b[k] then 0 else 1):=by
    by_cases h:a[i]=b[k]
    ·rw [if_pos h,show (a[i]==b[k])=true from beq_iff_eq.2 h];simp
    ·rw [if_neg h,beq_eq_false_iff_ne.2 h,B9 ⟨by omega,by omega⟩];rfl
   have hm:A1 ((if w<u then w else u)+1)=(if w<u then w else u)+1:=by split<;>exact B9 ⟨by omega,by omega⟩
   rw [hcost,a8,y2 (by omega)]
   simp only [n5,hu,hw,a8,c5c,hm]
   rw [c5b,Int.toNat_natCast]
   have hst:=b4z hax hbx q2 hup hwp
   refine .inl ⟨_,rfl,rfl,hup,by simp [q3],fun j hj=>?_,fun j hj hj2=>?_⟩
   ·simp only
    rw [List.getElem?_set]
    by_cases hjk:k+1=j
    ·subst hjk
     rw [if_pos rfl,if_pos (by omega)]
     exact⟨_,rfl,hst⟩
    ·rw [if_neg hjk]
     exact q4 j (by omega)
   ·simp only
    rw [List.getElem?_set,if_neg (by omega)]
    exact q5 j (by omega) hj2) (fun s hs=>by
   subst hg
   obtain⟨cr,s1,row⟩:=s
   obtain⟨q1,q2,q3,q4,q5⟩:=hs
   simp only at q1 q2 q3 q4 q5
   subst q1
   dsimp only
   rw [c6 (by omega),i6]
   exact⟨_,rfl,q3,q4⟩)
  have ht':v8 g F (c0,(0:Int),row.set 0 ((i+1:Nat):Int))=some t:=ht
  rw [ht',a8,a8]
  exact .inl ⟨_,rfl,rfl,hp1,hp2⟩) (fun s hs=>by
  subst hf
  obtain⟨s1,row⟩:=s
  obtain⟨h1,h2,h3⟩:=hs
  simp only at h1 h2 h3
  subst h1
  dsimp only
  rw [c6 (by omega),i6]
  exact⟨_,rfl,h3 b.length (Nat.le_refl _)⟩)
 rw [ht,a8,a8,n5,hv]
 rw [hp.2.2];rfl
theorem b2q (a b:q9): ∀i j:Nat,0≤b0D a b i j∧b0D a b i j≤(i:Int)+j
 | 0,j=>by rw [b0D];omega
 | i+1,0=>by rw [b0D];omega
 | i+1,j+1=>by
  have h1:=b2q a b i j
  have h2:=b2q a b i (j+1)
  have h3:=b2q a b (i+1) j
  rw [b0D]
  split<;>split<;>split<;>omega
end Go.Fk
