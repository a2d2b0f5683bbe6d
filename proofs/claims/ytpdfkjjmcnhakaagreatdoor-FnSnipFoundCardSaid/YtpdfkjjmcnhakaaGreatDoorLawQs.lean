import Derived.Test.YtpdfkjjmcnhakaaGreatDoorLawTSC
import Derived.Test.YtpdfkjjmcnhakaaGreatDoorLawDocs
import Derived.Test.YtpdfkjjmcnhakaaGreatDoorLawBase
/-
  Patterns: the program and the reference match alike. Of no program's steps.
-/
namespace Go.Fk
open Go
def gB (b:UInt8):Bool:=Z8 b||(b==42||b==63)
def b1n (p:l3):Bool:=p.all gB&&(decide (1≤(p.length:Int))&&decide ((p.length:Int)≤12))
theorem a38 (F:Nat)(p:l3):W3 F p=some (b1n p):=by
 unfold W3 b1n
 rw [Q4 (p:=gB) (xs:=p) (f:=_) (fun i x hx=>?_) p.length 0 (by omega),List.drop_zero]
 ·cases p.all gB
  ·rfl
  ·simp only [if_true,a8,Sum.elim_inl,n8]
   rw [F9];rfl
 ·rw [l8,hx,a8,a2h,a8]
  unfold gB
  cases Z8 x
  ·rw [Bool.not_false,j6,a8]
   cases x==42
   ·rw [Bool.not_false,j6,a8,a8]
    cases x==63<;>rfl
   ·rfl
  ·rfl
theorem a1A (c:UInt8)(s:l3):a1n (c::s) (1:Int) ((c::s).length:Int)=some s:=by
 unfold a1n
 rw [if_pos ⟨by omega,by simp only [l9];omega,by omega⟩]
 simp
theorem a9H (c:UInt8)(s:l3):p8 (c::s) (0:Int)=some c:=rfl
def a2J:l3→l3→Bool
 | [],s=>s==[]
 | c::p,[]=>if c==42 then a2J p [] else false
 | c::p,x::s=>if c==42 then a2J p (x::s)||a2J (c::p) s else if c==63 then a2J p s else if c==x then a2J p s else false
termination_by p s=>p.length+s.length
theorem a9J: ∀(n:Nat) (p s:l3) (F:Nat),p.length+s.length≤n→n<F→H1 F p s=some (a2J p s)
 | n,[],s,F,hn,hF=>by
  obtain⟨F,rfl⟩: ∃G,F=G+1:=⟨F-1,by omega⟩
  rw [a2J];rfl
 | 0,c::p,s,F,hn,hF=>by simp at hn
 | n+1,c::p,s,F,hn,hF=>by
  obtain⟨F,rfl⟩: ∃G,F=G+1:=⟨F-1,by omega⟩
  rw [H1]
  dsimp only
  rw [show ((c::p:l3)==([]:l3))=false from rfl,i9,a9H,a8]
  simp only [l9] at hn
  have ih:=fun p s h=>a9J n p s F h (by omega)
  cases s with
  | nil=>
   rw [a2J]
   cases h42:c==42
   ·rfl
   ·rw [j6,a1A,a8,ih p [] (by simpa using hn),a8,if_pos rfl]
    cases a2J p []<;>rfl
  | cons x s=>
   simp only [l9] at hn
   rw [a2J]
   cases h42:c==42
   ·rw [i9,show ((x::s:l3)==([]:l3))=false from rfl,i9,if_neg (by simp)]
    rw [a8]
    cases h63:c==63
    ·rw [i9,if_neg (by simp),a8,a9H,a8]
     cases hx:c==x
     ·rfl
     ·rw [j6,a1A,a8,a1A,a8,ih p s (by omega),a8];rfl
    ·rw [j6,a1A,a8,a1A,a8,ih p s (by omega),a8];rfl
   ·rw [j6,a1A,a8,ih p (x::s) (by simp only [l9];omega),a8,if_pos rfl]
    cases a2J p (x::s)
    ·rw [i9,show ((x::s:l3)==([]:l3))=false from rfl,Bool.not_false,j6,a1A,a8,ih (c::p) s (by simp only [l9];omega)]
     rfl
    ·rfl
end Go.Fk
set_option linter.unusedVariables false
namespace Go.Fk
open Go
inductive a3P:B5→Prop
 | all:a3P ⟨1,[],[],0,0,[]⟩
 | term {f w:l3}:A1 f=true→A1 w=true→a3P ⟨2,f,[w],0,0,[]⟩
 | phrase {f:l3} {ws:List l3} {n:Int}:A1 f=true→2≤ws.length→ws.length≤4→(∀w∈ws,A1 w=true)→0≤n→n≤5→a3P ⟨3,f,ws,n,0,[]⟩
 | near {f w:l3} {n:Int}:A1 f=true→A1 w=true→1≤n→n≤2→a3P ⟨4,f,[w],n,0,[]⟩
 | glob {f p:l3}:A1 f=true→b1n p=true→A1 p=false→a3P ⟨5,f,[p],0,0,[]⟩
 | range {f:l3} {a b:Int}:A1 f=true→0≤a→a≤999999999→a≤b→b≤999999999→a3P ⟨6,f,[],a,b,[]⟩
inductive R2:Nat→B5→Prop
 | leaf {d:Nat} {q:B5}:a3P q→R2 (d+1) q
 | and {d:Nat} {ks:List B5}:2≤ks.length→ks.length≤4→(∀k∈ks,R2 d k)→R2 (d+1) ⟨7,[],[],0,0,ks⟩
 | or {d:Nat} {ks:List B5}:2≤ks.length→ks.length≤4→(∀k∈ks,R2 d k)→R2 (d+1) ⟨8,[],[],0,0,ks⟩
 | less {d:Nat} {a b:B5}:R2 d a→R2 d b→R2 (d+1) ⟨9,[],[],0,0,[a,b]⟩
 | times {d:Nat} {n:Int} {k:B5}:2≤n→n≤9→R2 d k→R2 (d+1) ⟨10,[],[],n,0,[k]⟩
theorem R2.more: ∀{d e:Nat} {q:B5},R2 d q→d≤e→R2 e q
 | 0,_,_,h,_=>by cases h
 | d+1,0,_,_,he=>by omega
 | d+1,e+1,q,h,he=>by
  cases h with
  | leaf h=>exact .leaf h
  | and h1 h2 h3=>exact .and h1 h2 fun k hk=>R2.more (h3 k hk) (by omega)
  | or h1 h2 h3=>exact .or h1 h2 fun k hk=>R2.more (h3 k hk) (by omega)
  | less h1 h2=>exact .less (h1.more (by omega)) (h2.more (by omega))
  | times h1 h2 h3=>exact .times h1 h2 (h3.more (by omega))
theorem a3r {s:l3}(h:A1 s=true):(s==([]:l3))=false:=by
 cases s with
 | nil=>exact absurd h (by decide)
 | cons x r=>rfl
theorem Z3 {a b:Int}(h:a≤b):decide (a≤b)=true:=b8 h
theorem b54 (F:Nat)(deep:Nat){q:B5}(h:a3P q)(hd:1≤deep):D6 (F+1) q (deep:Int)=some true:=by
 rw [D6]
 dsimp only
 cases h with
 | all=>
  rw [show E8 1=true from rfl,show s4 1=⟨false,0,0,0,0,false,0,0⟩ from rfl,c6 (show ¬((deep:Int)<1) by omega)]
  rfl
 | @term f w hf hw=>
  rw [show E8 2=true from rfl,show s4 2=⟨true,1,1,0,0,false,0,0⟩ from rfl,c6 (show ¬((deep:Int)<1) by omega),a3r hf,F3,hf]
  simp only [F9,a8,y6,l9,List.length_nil,l8,List.getElem?_cons_zero,F3,hw]
  rfl
 | @phrase f ws n hf h1 h2 hw h3 h4=>
  rw [show E8 3=true from rfl,show s4 3=⟨true,2,4,0,5,false,0,0⟩ from rfl,c6 (show ¬((deep:Int)<1) by omega),a3r hf,F3,hf]
  simp only [F9,a8]
  rw [Z3 (show (2:Int)≤ws.length by omega),Z3 (show (ws.length:Int)≤4 by omega),Z3 h3,Z3 h4,Q4 (p:=fun _=>true) (xs:=ws) (fun i x hx=>?_) ws.length 0 (by omega)]
  ·simp;rfl
  ·rw [l8,hx,a8,F3,hw x (m8 hx)];rfl
 | @near f w n hf hw h1 h2=>
  rw [show E8 4=true from rfl,show s4 4=⟨true,1,1,1,2,false,0,0⟩ from rfl,c6 (show ¬((deep:Int)<1) by omega),a3r hf,F3,hf]
  simp only [F9,a8,y6,l9,List.length_nil,l8,List.getElem?_cons_zero,F3,hw,Z3 h1,Z3 h2]
  rfl
 | @glob f p hf hp hn=>
  rw [show E8 5=true from rfl,show s4 5=⟨true,1,1,0,0,false,0,0⟩ from rfl,c6 (show ¬((deep:Int)<1) by omega),a3r hf,F3,hf]
  simp only [F9,a8,y6,l9,List.length_nil,l8,List.getElem?_cons_zero,F3,a38,hp,hn]
  rfl
 | @range f a b hf h1 h2 h3 h4=>
  rw [show E8 6=true from rfl,show s4 6=⟨true,0,0,0,999999999,true,0,0⟩ from rfl,c6 (show ¬((deep:Int)<1) by omega),a3r hf,F3,hf]
  simp only [F9,a8,Z3 h1,Z3 h2,Z3 h3,Z3 h4]
  rfl
theorem b1H: ∀{d:Nat} {q:B5},R2 d q→∀(F deep:Nat),d≤deep→deep≤1000→d<F→D6 F q (deep:Int)=some true
 | 0,_,h,_,_,_,_,_=>by cases h
 | d+1,q,h,F,deep,h1,h2,hF=>by
  obtain⟨F,rfl⟩: ∃G,F=G+1:=⟨F-1,by omega⟩
  have kid: ∀k,R2 d k→D6 F k (y8 ((deep:Int)-1))=some true:=fun k hk=>by
   rw [Z7 (by omega) (by omega)]
   exact b1H hk F (deep-1) (by omega) (by omega) (by omega)
  cases h with
  | leaf h=>exact b54 F deep h (by omega)
  | @and _ ks h3 h4 h5=>
   rw [D6]
   dsimp only
   rw [show E8 7=true from rfl,show s4 7=⟨false,0,0,0,0,false,2,4⟩ from rfl,c6 (show ¬((deep:Int)<1) by omega)]
   simp only [F9,a8]
   rw [Z3 (show (2:Int)≤ks.length by omega),Z3 (show (ks.length:Int)≤4 by omega),Q4 (p:=fun _=>true) (xs:=ks) (fun i x hx=>?_) ks.length 0 (by omega)]
   ·simp [y6]
   ·rw [l8,hx,a8,kid x (h5 x (m8 hx))];rfl
  | @or _ ks h3 h4 h5=>
   rw [D6]
   dsimp only
   rw [show E8 8=true from rfl,show s4 8=⟨false,0,0,0,0,false,2,4⟩ from rfl,c6 (show ¬((deep:Int)<1) by omega)]
   simp only [F9,a8]
   rw [Z3 (show (2:Int)≤ks.length by omega),Z3 (show (ks.length:Int)≤4 by omega),Q4 (p:=fun _=>true) (xs:=ks) (fun i x hx=>?_) ks.length 0 (by omega)]
   ·simp [y6]
   ·rw [l8,hx,a8,kid x (h5 x (m8 hx))];rfl
  | @less _ a b h3 h4=>
   rw [D6]
   dsimp only
   rw [show E8 9=true from rfl,show s4 9=⟨false,0,0,0,0,false,2,2⟩ from rfl,c6 (show ¬((deep:Int)<1) by omega)]
   simp only [F9,a8]
   rw [Q4 (p:=fun _=>true) (xs:=[a,b]) (fun i x hx=>?_) [a,b].length 0 (by omega)]
   ·rfl
   ·have hx':R2 d x:=by
     have:=m8 hx
     simp only [List.mem_cons,List.not_mem_nil,or_false] at this
     rcases this with rfl | rfl
     ·exact h3
     ·exact h4
    rw [l8,hx,a8,kid x hx'];rfl
  | @times _ n k h3 h4 h5=>
   rw [D6]
   dsimp only
   rw [show E8 10=true from rfl,show s4 10=⟨false,0,0,2,9,false,1,1⟩ from rfl,c6 (show ¬((deep:Int)<1) by omega)]
   simp only [F9,a8,Z3 h3,Z3 h4]
   rw [Q4 (p:=fun _=>true) (xs:=[k]) (fun i x hx=>?_) [k].length 0 (by omega)]
   ·rfl
   ·have hx':R2 d x:=by
     have:=m8 hx
     simp only [List.mem_cons,List.not_mem_nil,or_false] at this
     rw [this];exact h5
    rw [l8,hx,a8,kid x hx'];rfl
theorem a9Z (F:Nat){d:Nat}{q:B5}(h:R2 d q)(hd:d≤4)(hF:10<F):N9 F q=some true:=by
 unfold N9
 have:=b1H h F 4 hd (by omega) (by omega)
 rw [show ((4:Nat):Int)=4 from rfl] at this
 rw [this];rfl
end Go.Fk
set_option linter.unusedVariables false
namespace Go.Fk
open Go
def okN (n:Int):Bool:=decide (0≤n)&&decide (n≤999999999)
def upQ (l:List Int):Bool:=a1c okN (fun a b=>decide (a<b)) l&&decide ((l.length:Int)≤60)
theorem b5X (F:Nat)(l:List Int)(hl:l.length<9000000000000000000):a1K F l=some (upQ l):=by
 unfold a1K upQ
 rw [a3g (ok:=okN) (lt:=fun a b=>decide (a<b)) (fun i x hx=>?_)]
 ·cases a1c okN (fun a b=>decide (a<b)) l<;>rfl
 ·have hi:=(g8.1 hx).1
  rw [l8,hx,a8,F9,a8]
  unfold okN
  cases (decide (0≤x)&&decide (x≤999999999)) with
  | false=>rfl
  | true=>
   rw [n5,i9,n8]
   by_cases h0:i=0
   ·subst h0;rfl
   ·rw [b8 (show (0:Int)<(i:Int) by omega),j6,Z7 (by omega) (by omega),l8,i6 (show i-1<l.length by omega),a8,a8,c6 h0,Bool.false_or]
    show _=some (if decide (l[i-1]<x)=true then _ else _)
    rw [show decide (x≤l[i-1])= !decide (l[i-1]<x) by rw [a8g];simp]
    cases decide (l[i-1]<x)<;>rfl
structure UpL (l:List Int):Prop where
 asc: ∀i j,(hi:i<l.length)→(hj:j<l.length)→i<j→l[i]<l[j]
 rng: ∀x∈l,0≤x∧x≤999999999
 few:l.length≤60
theorem c0a {l:List Int}(h:upQ l=true):UpL l:=by
 simp only [upQ,l5,decide_eq_true_eq] at h
 obtain⟨h1,h2⟩:=h
 obtain⟨k1,k2⟩:=a2u h1
 refine⟨fun i j hi hj hij=>?_,fun x hx=>by simpa [okN] using k1 x hx,by omega⟩
 obtain⟨d,rfl⟩: ∃d,j=i+1+d:=⟨j-(i+1),by omega⟩
 clear hij
 induction d with
 | zero=>simpa using k2 i hj
 | succ d ih=>
  have:=ih (by omega)
  have k:=k2 (i+1+d) hj
  simp only [decide_eq_true_eq] at k
  exact Int.lt_trans this k
def a68 (l:List Int)(n:Int):Option Int:=l.find? fun x=>decide (n≤x)
theorem b4Y (F:Nat)(l:List Int)(n:Int)(hu:UpL l)(hF:100<F):
  ∃(k:Nat) (b:Bool),G6 F l n=some ((k:Int),b)∧k≤l.length∧(∀t,(h:t<l.length)→t<k→l[t]<n)∧∀t,(h:t<l.length)→k≤t→n≤l[t]:=by
 have hf:=hu.few
 unfold G6
 obtain⟨t,ht,k,rfl,h1,h2,h3⟩:=G3 (σ:=Int×Int) (τ:=Int) (f:=fun (s14:Int×Int)=>(cond (decide (s14.1<s14.2)) (Option.bind (nnI (y8 (s14.1+s14.2))) fun x29=>(Option.bind (b12 x29 (1:Int)) fun x32=>(Option.bind (p8 l x32) fun x35=>(Option.bind (R6 F x35 n) fun r45=>(cond r45 (some (.inl ((y8 (x32+(1:Int))),s14.2))) (some (.inl (s14.1,x32)))))))) (some (.inr s14.1))))
  (Post:=fun t=>∃k:Nat,t=(k:Int)∧k≤l.length∧(∀t,(h:t<l.length)→t<k→l[t]<n)∧∀t,(h:t<l.length)→k≤t→n≤l[t])
  (fun c s=>∃i j:Nat,s=((i:Int),(j:Int))∧i≤j∧j≤l.length∧j-i≤l.length-c∧(∀t,(h:t<l.length)→t<i→l[t]<n)∧∀t,(h:t<l.length)→j≤t→n≤l[t]) (l.length+1)
  (fun c s _ hI=>by
   obtain⟨i,j,rfl,h1,h2,h3,h4,h5⟩:=hI
   by_cases hij:i<j
   ·left
    have hm:(i+j)/2<l.length:=by omega
    have e1:nnI (y8 ((i:Int)+(j:Int)))=some ((i+j:Nat):Int):=by rw [B9 ⟨by omega,by omega⟩,nnI,if_pos (by omega)];rfl
    have e2:b12 ((i+j:Nat):Int) 1=some (((i+j)/2:Nat):Int):=by
     unfold b12
     rw [if_neg (by omega)]
     show some (Int.fdiv ((i+j:Nat):Int) 2)=_
     rw [Int.fdiv_eq_ediv_of_nonneg _ (by omega)];rfl
    have e3:R6 F l[(i+j)/2] n=some (decide (l[(i+j)/2]<n)):=by
     unfold R6 U8
     simp
    dsimp only
    rw [b8 (by omega),j6,e1,a8,e2,a8,a03 hm,a8,e3,a8]
    by_cases hlt:l[(i+j)/2]<n
    ·refine⟨(((i+j)/2+1:Nat),(j:Int)),?_,(i+j)/2+1,j,rfl,by omega,h2,by omega,fun t ht htm=>?_,h5⟩
     ·rw [b8 hlt,j6,u4 (by omega)]
     ·rcases Nat.lt_or_ge t ((i+j)/2) with h | h
      ·exact Int.lt_trans (hu.asc t _ ht hm h) hlt
      ·obtain rfl:t=(i+j)/2:=by omega
       exact hlt
    ·refine⟨((i:Int),(((i+j)/2:Nat):Int)),?_,i,(i+j)/2,rfl,by omega,by omega,by omega,h4,fun t ht htm=>?_⟩
     ·rw [c6 hlt,i9]
     ·rcases Nat.lt_or_ge ((i+j)/2) t with h | h
      ·exact Int.le_of_lt (Int.lt_of_le_of_lt (Int.not_lt.1 hlt) (hu.asc _ t hm ht h))
      ·obtain rfl:t=(i+j)/2:=by omega
       exact Int.not_lt.1 hlt
   ·right
    refine⟨(i:Int),?_,i,rfl,by omega,h4,fun t ht hti=>h5 t ht (by omega)⟩
    dsimp only
    rw [c6 (by omega),i9])
  (fun s hI=>by
   obtain⟨i,j,rfl,h1,h2,h3,h4,h5⟩:=hI
   refine⟨(i:Int),?_,i,rfl,by omega,h4,fun t ht hti=>h5 t ht (by omega)⟩
   dsimp only
   rw [c6 (by omega),i9]) (l.length+1) 0 ((0:Int),(l.length:Int)) F (by omega) (by omega)
  ⟨0,l.length,rfl,Nat.zero_le _,Nat.le_refl _,by omega,fun t _ h=>by omega,fun t h h'=>by omega⟩
 rw [ht,a8,a8]
 by_cases hk:k<l.length
 ·rw [b8 (by omega),j6,a03 hk,a8]
  cases (l[k]==n)
  ·rw [i9,a8]
   unfold O3
   rw [beq_self_eq_true,a8]
   exact⟨k,false,rfl,h1,h2,h3⟩
  ·exact⟨k,true,rfl,h1,h2,h3⟩
 ·rw [c6 (by omega),i9]
  exact⟨k,false,rfl,h1,h2,h3⟩
theorem b7p (F:Nat)(l:List Int)(n:Int)(hu:UpL l)(hF:100<F):a1L F l n=some ((a68 l n).elim (0,false) fun x=>(x,true)):=by
 obtain⟨k,b,hs,h1,h2,h3⟩:=b4Y F l n hu hF
 unfold a1L a68
 rw [hs,a8]
 dsimp only
 by_cases hk:k=l.length
 ·rw [beq_iff_eq.2 (by omega),j6,List.find?_eq_none.2 fun x hx=>?_]
  ·rfl
  ·obtain⟨i,hi,rfl⟩:=List.mem_iff_getElem.1 hx
   have:=h2 i hi (by omega)
   simp;omega
 ·have hk':k<l.length:=by omega
  have hf:l.find? (fun x=>decide (n≤x))=some l[k]:=List.find?_eq_some_iff_getElem.2 ⟨by simpa using h3 k hk' (Nat.le_refl _),k,hk',rfl,fun j hj=>by have:=h2 j (by omega) hj;simp;omega⟩
  rw [beq_eq_false_iff_ne.2 (by omega),i9,a03 hk',a8,hf]
  rfl
def a24:List (List Int)→Int→Int→Bool
 | [],last,b=>decide (last≤b)
 | l::r,last,b=>l.any fun x=>decide (last<x)&&a24 r x b
theorem b4q: ∀(r:List (List Int)) {x y b:Int},x≤y→a24 r y b=true→a24 r x b=true
 | [],x,y,b,h,e=>by simp only [a24,decide_eq_true_eq] at e ⊢;omega
 | l::r,x,y,b,h,e=>by
  simp only [a24,List.any_eq_true,l5,decide_eq_true_eq] at e ⊢
  obtain⟨z,hz,h1,h2⟩:=e
  exact⟨z,hz,by omega,h2⟩
theorem b4r {l:List Int}(hu:UpL l)(r:List (List Int))(last b:Int):a24 (l::r) last b=(a68 l (last+1)).elim false fun x=>a24 r x b:=by
 unfold a68
 cases hf:l.find? fun x=>decide (last+1≤x) with
 | none=>
  have:=List.find?_eq_none.1 hf
  simp only [Option.elim,a24]
  rw [Bool.eq_false_iff]
  intro h
  simp only [List.any_eq_true,l5,decide_eq_true_eq] at h
  obtain⟨x,hx,h1,_⟩:=h
  have:=this x hx
  simp at this;omega
 | some m=>
  obtain⟨h1,k,hk,rfl,h2⟩:=List.find?_eq_some_iff_getElem.1 hf
  simp only [decide_eq_true_eq] at h1
  simp only [Option.elim]
  rw [Bool.eq_iff_iff]
  simp only [a24,List.any_eq_true,l5,decide_eq_true_eq]
  constructor
  ·rintro⟨x,hx,h3,h4⟩
   obtain⟨i,hi,rfl⟩:=List.mem_iff_getElem.1 hx
   refine b4q r ?_ h4
   rcases Nat.lt_trichotomy k i with h | h | h
   ·exact Int.le_of_lt (hu.asc k i hk hi h)
   ·subst h;exact Int.le_refl _
   ·have:=h2 i h
    simp at this;omega
  ·intro h
   exact⟨l[k],List.getElem_mem hk,by omega,h⟩
def a4A (s:Int×Bool)(l:List Int):Int×Bool:=((a68 l (y8 (s.1+1))).elim 0 id,s.2&&(a68 l (y8 (s.1+1))).isSome)
theorem a88: ∀(r:List (List Int)) (x:Int),(r.foldl a4A (x,false)).2=false
 | [],x=>rfl
 | l::r,x=>by rw [List.foldl_cons];exact a88 r _
theorem a9F (b:Int): ∀(r:List (List Int)) (x:Int),(∀l∈r,UpL l)→0≤x→x≤999999999→((r.foldl a4A (x,true)).2&&decide ((r.foldl a4A (x,true)).1≤b))=a24 r x b
 | [],x,_,_,_=>by rw [List.foldl_nil,n8,a24]
 | l::r,x,hu,h0,h1=>by
  rw [List.foldl_cons,b4r (hu l (.head _))]
  have hw:y8 (x+1)=x+1:=B9 ⟨by omega,by omega⟩
  cases hn:a68 l (x+1) with
  | none=>
   have e:a4A (x,true) l=(0,false):=by
    unfold a4A
    dsimp only
    rw [hw,hn];rfl
   rw [e,a88];rfl
  | some m=>
   have hm:=(hu l (.head _)).rng m (List.mem_of_find?_eq_some hn)
   have e:a4A (x,true) l=(m,true):=by
    unfold a4A
    dsimp only
    rw [hw,hn];rfl
   rw [e]
   exact a9F b r m (fun q hq=>hu q (.tail _ hq)) hm.1 hm.2
def a6c (lists:List (List Int))(slop:Int):List Int:=
 if lists.all upQ&&(decide (1≤(lists.length:Int))&&decide ((lists.length:Int)≤6))&&(decide (0≤slop)&&decide (slop≤5)) then (lists.headD []).filter fun p=>a24 lists.tail p (p+lists.length-1+slop) else []
theorem b9Z {α:Type}{ws:List α}{p:α→Bool}{f:Nat→List α→Option (List α)}(hl:ws.length≤1000)
  (h: ∀(i:Nat) w (out:List α),ws[i]? =some w→out.length≤1000→f i out=some (if p w then out++[w] else out)):O6 f ws.length 0 []=some (ws.filter p):=b9Y hl h
theorem a9m (F:Nat)(lists:List (List Int))(slop:Int)(hl: ∀l∈lists,l.length≤1000)(hn:lists.length≤1000)(hF:2000<F):U9 F lists slop=some (a6c lists slop):=by
 unfold U9 a0J a00 a6c
 cases hne:lists with
 | nil=>rfl
 | cons l0 r=>
  rw [←hne,b8 (by rw [hne];simp only [l9];omega),j6,Q4 (p:=upQ) (xs:=lists) (fun i x hx=>?_) lists.length 0 (by omega),List.drop_zero]
  ·cases ha:lists.all upQ with
   | false=>rfl
   | true=>
    have hup: ∀l∈lists,UpL l:=fun l hlm=>c0a (List.all_eq_true.1 ha l hlm)
    simp only [if_true,a8,Sum.elim_inl,n8]
    rw [b8 (show (1:Int)≤(lists.length:Int) by rw [hne];simp only [l9];omega),n8]
    by_cases h6:(lists.length:Int)≤6
    ·rw [b8 h6,n5,i9,F9,a8,a8,n8]
     cases hs:(decide (0≤slop)&&decide (slop≤5)) with
     | false=>rfl
     | true=>
      simp only [l5,decide_eq_true_eq] at hs
      rw [n5,i9,if_pos rfl]
      have hg:p8 lists (0:Int)=some l0:=by rw [hne];rfl
      have hm0:l0∈lists:=by rw [hne];exact .head _
      have htl:Z6 lists 1 (lists.length:Int)=some r:=by
       rw [hne]
       unfold Z6
       rw [if_pos ⟨by omega,by simp only [l9];omega,by omega⟩]
       simp
      rw [hg,a8,b9Z (p:=fun p=>a24 r p (p+lists.length-1+slop)) (hl l0 hm0) (fun i w out hw ho=>?_)]
      ·rw [hne];rfl
      ·have hwm:=m8 hw
       have hwr:=(hup l0 hm0).rng w hwm
       rw [l8,hw,a8,htl,a8,a4L (xs:=r) a4A (fun j x s hx=>?_),a8,a8]
       ·have hb:y8 (y8 (y8 (w+(lists.length:Int))-1)+slop)=w+lists.length-1+slop:=by
         rw [B9 (n:=w+(lists.length:Int)) ⟨by omega,by omega⟩,B9 (n:=w+(lists.length:Int)-1) ⟨by omega,by omega⟩,B9 ⟨by omega,by omega⟩]
        have hff:=a9F (w+lists.length-1+slop) r w (fun l h=>hup l (by rw [hne];exact .tail _ h)) hwr.1 hwr.2
        rw [hb,←hff]
        cases (r.foldl a4A (w,true)).2
        ·rfl
        ·rw [j6,a8,n8,F5 (by simp only [l6];omega)]
         cases decide ((r.foldl a4A (w,true)).1≤w+lists.length-1+slop)<;>rfl
       ·have hxu:=hup x (by rw [hne];exact .tail _ (m8 hx))
        rw [l8,hx,a8,b7p F x _ hxu (by omega),a8]
        unfold a4A
        cases a68 x (y8 (s.1+1))<;>cases s.2<;>rfl
    ·rw [c6 h6];rfl
  ·rw [l8,hx,a8,b5X F x (by have:=hl x (m8 hx);omega),a8]
   cases upQ x<;>rfl
end Go.Fk
set_option linter.unusedVariables false
namespace Go.Fk
open Go
def a6C (a b:l3):Nat→Nat→Int
 | 0,j=>(j:Int)
 | i+1,0=>((i+1:Nat):Int)
 | i+1,j+1=>
  let c:=a6C a b i j+if a[i]? =b[j]? then 0 else 1
  let u:=a6C a b i (j+1)+1
  let v:=a6C a b (i+1) j+1
  if v<(if u<c then u else c) then v else (if u<c then u else c)
def b2D (a b:l3):Int:=a6C a b a.length b.length
def a7j (a b:l3)(i j:Nat)(v:Int):Prop:=0≤v∧v≤(i:Int)+j∧v=a6C a b i j
theorem b5Q (a b:l3)(j:Nat):a7j a b 0 j (j:Int):=⟨by omega,by omega,by rw [a6C]⟩
theorem b5P (a b:l3)(i:Nat):a7j a b (i+1) 0 ((i+1:Nat):Int):=⟨by omega,by omega,by rw [a6C]⟩
theorem b4m {a b:l3}{i j:Nat}{x y:UInt8}{c u v:Int}(hi:a[i]? =some x)(hj:b[j]? =some y)(hc:a7j a b i j c)(hu:a7j a b i (j+1) u)(hv:a7j a b (i+1) j v):
  a7j a b (i+1) (j+1) (if v+1<(if u+1<(c+if x=y then 0 else 1) then u+1 else (c+if x=y then 0 else 1)) then v+1 else (if u+1<(c+if x=y then 0 else 1) then u+1 else (c+if x=y then 0 else 1))):=by
 have h1:=hc.1;have h2:=hu.1;have h3:=hv.1
 have k1:=hc.2.1;have k2:=hu.2.1;have k3:=hv.2.1
 have hxy:(if a[i]? =b[j]? then (0:Int) else 1)=if x=y then 0 else 1:=by
  rw [hi,hj]
  by_cases h:x=y
  ·rw [if_pos h,if_pos (by rw [h])]
  ·rw [if_neg h,if_neg (by simpa using h)]
 refine⟨?_,?_,?_⟩
 ·split<;>split at * <;>split at * <;>omega
 ·split<;>split at * <;>split at * <;>omega
 ·rw [a6C,hxy,←hc.2.2,←hu.2.2,←hv.2.2]
theorem b51 (F:Nat)(a b:l3)(ha:A1 a=true)(hb:A1 b=true)(hF:100<F):R7 F a b=some (b2D a b):=by
 have la:=a0o ha
 have lb:=a0o hb
 unfold R7
 rw [F3,ha,a8,n5,i9,F3,hb,a8,n5,a8,i9,u4 (by omega)]
 unfold a9Q
 rw [if_pos ⟨by omega,by omega⟩,a8,Int.toNat_natCast]
 -- the first row
 have key0:=fun f step=>a2g (σ:=List Int) (f:=f) (fun k row=>row.length=b.length+1∧∀j,j<k→row[j]? =some (j:Int)) (List.replicate (b.length+1) (0:Int)).length step (List.replicate (b.length+1) (0:Int)).length 0 (List.replicate (b.length+1) (0:Int)) (by omega) ⟨by simp,fun j h=>by omega⟩
 generalize hf0:(fun (i55:Nat) (s51:(List Int))=>_:Nat→List Int→Option (List Int))=f0
 obtain⟨row0,hr0,hl0,hv0⟩:=key0 f0 (fun i s hi hs=>by
  subst hf0
  obtain⟨h1,h2⟩:=hs
  simp only [List.length_replicate] at hi
  dsimp only
  rw [l8,i6 (show i<s.length by omega),a8,Int.toNat_natCast]
  refine⟨_,rfl,by simp [h1],fun j hj=>?_⟩
  rw [List.getElem?_set]
  by_cases hij:i=j
  ·subst hij;rw [if_pos rfl,if_pos (by omega)]
  ·rw [if_neg hij];exact h2 j (by omega))
 simp only [List.length_replicate] at hr0 hv0
 rw [List.length_replicate,hr0,a8,a8]
 -- the rows
 have key:=fun f step fin=>G3 (σ:=Int×List Int) (τ:=List Int) (f:=f) (Post:=fun t=>∃v,t[b.length]? =some v∧a7j a b a.length b.length v)
  (fun i s=>s.1=((i+1:Nat):Int)∧s.2.length=b.length+1∧∀j,j≤b.length→∃v,s.2[j]? =some v∧a7j a b i j v) a.length step fin a.length 0 ((1:Int),row0) F (by omega) (by omega)
  ⟨rfl,hl0,fun j hj=>⟨(j:Int),hv0 j (by omega),b5Q a b j⟩⟩
 generalize hf:(fun (s91:Int×(List Int))=>_:Int×List Int→Option ((Int×List Int)⊕(List Int)))=f
 obtain⟨t,ht,v,hv,hp⟩:=key f (fun i s hi hs=>by
  subst hf
  obtain⟨s1,row⟩:=s
  obtain⟨h1,h2,h3⟩:=hs
  simp only at h1 h2 h3
  subst h1
  dsimp only
  obtain⟨c0,hc0,hc0p⟩:=h3 0 (by omega)
  rw [b8 (by omega),j6,show (0:Int)=((0:Nat):Int) from rfl,l8,hc0,a8,a8,Int.toNat_natCast]
  have key2:=fun g step2 fin2=>G3 (σ:=Int×Int×List Int) (τ:=List Int) (f:=g) (Post:=fun t=>t.length=b.length+1∧∀j,j≤b.length→∃v,t[j]? =some v∧a7j a b (i+1) j v)
   (fun k s=>s.2.1=((k+1:Nat):Int)∧a7j a b i k s.1∧s.2.2.length=b.length+1∧(∀j,j≤k→∃v,s.2.2[j]? =some v∧a7j a b (i+1) j v)∧∀j,k<j→j≤b.length→∃v,s.2.2[j]? =some v∧a7j a b i j v)
   b.length step2 fin2 b.length 0 (c0,(1:Int),row.set 0 ((i+1:Nat):Int)) F (by omega) (by omega)
   ⟨rfl,hc0p,by simp [h2],fun j hj=>⟨((i+1:Nat):Int),by
    have:j=0:=by omega
    subst this
    rw [List.getElem?_set,if_pos rfl,if_pos (by omega)],by
    have:j=0:=by omega
    subst this
    exact b5P a b i⟩,fun j hj hj2=>by
    obtain⟨v,hv,hp⟩:=h3 j hj2
    exact⟨v,by simp only;rw [List.getElem?_set,if_neg (by omega)];exact hv,hp⟩⟩
  generalize hg:(fun (s139:Int×Int×(List Int))=>_:Int×Int×List Int→Option ((Int×Int×List Int)⊕(List Int)))=g
  obtain⟨t,ht,hp1,hp2⟩:=key2 g (fun k s hk hs=>by
   subst hg
   obtain⟨cr,s1,row⟩:=s
   obtain⟨q1,q2,q3,q4,q5⟩:=hs
   simp only at q1 q2 q3 q4 q5
   subst q1
   dsimp only
   have hax:a[i]? =some a[i]:=i6 hi
   have hbx:b[k]? =some b[k]:=i6 hk
   obtain⟨u,hu,hup⟩:=q5 (k+1) (by omega) (by omega)
   obtain⟨w,hw,hwp⟩:=q4 k (by omega)
   have e1:y8 (((i+1:Nat):Int)-1)=(i:Int):=by rw [B9 ⟨by omega,by omega⟩];omega
   have e2:y8 (((k+1:Nat):Int)-1)=(k:Int):=by rw [B9 ⟨by omega,by omega⟩];omega
   have b1:=q2.1;have b2:=q2.2.1;have b3:=hup.1;have b4:=hup.2.1;have b5:=hwp.1;have b6:=hwp.2.1
   rw [b8 (by omega),j6,e1,e2,l8,hax,a8,l8,hbx,a8]
   have hcost:(cond (!(a[i]==b[k])) (some (y8 (cr+(1:Int)))) (some cr):Option Int)=some (cr+if a[i]=b[k] then 0 else 1):=by
    by_cases h:a[i]=b[k]
    ·rw [if_pos h,show (a[i]==b[k])=true from beq_iff_eq.2 h];simp
    ·rw [if_neg h,beq_eq_false_iff_ne.2 h,B9 ⟨by omega,by omega⟩];rfl
   rw [hcost,a8,l8,hu,a8,a8,l8,hw,a8,a8,u4 (by omega),B9 (n:=u+1) ⟨by omega,by omega⟩,B9 (n:=w+1) ⟨by omega,by omega⟩,Int.toNat_natCast]
   have hst:=b4m hax hbx q2 hup hwp
   refine .inl ⟨_,rfl,rfl,hup,by simp [q3],fun j hj=>?_,fun j hj hj2=>?_⟩
   ·simp only
    rw [List.getElem?_set]
    by_cases hjk:k+1=j
    ·subst hjk
     rw [if_pos rfl,if_pos (by omega)]
     exact⟨_,rfl,hst⟩
    ·rw [if_neg hjk]
     exact q4 j (by omega)
   ·simp only
    rw [List.getElem?_set,if_neg (by omega)]
    exact q5 j (by omega) hj2) (fun s hs=>by
   subst hg
   obtain⟨cr,s1,row⟩:=s
   obtain⟨q1,q2,q3,q4,q5⟩:=hs
   simp only at q1 q2 q3 q4 q5
   subst q1
   dsimp only
   rw [c6 (by omega),i9]
   exact⟨_,rfl,q3,q4⟩)
  have ht':u0 g F (c0,(1:Int),row.set 0 ((i+1:Nat):Int))=some t:=ht
  rw [ht',a8,a8,u4 (by omega)]
  exact .inl ⟨_,rfl,rfl,hp1,hp2⟩) (fun s hs=>by
  subst hf
  obtain⟨s1,row⟩:=s
  obtain⟨h1,h2,h3⟩:=hs
  simp only at h1 h2 h3
  subst h1
  dsimp only
  rw [c6 (by omega),i9]
  exact⟨_,rfl,h3 b.length (Nat.le_refl _)⟩)
 rw [ht,a8,a8,l8,hv]
 rw [hp.2.2];rfl
theorem a7L (a b:l3): ∀i j:Nat,0≤a6C a b i j∧a6C a b i j≤(i:Int)+j
 | 0,j=>by rw [a6C];omega
 | i+1,0=>by rw [a6C];omega
 | i+1,j+1=>by
  have h1:=a7L a b i j
  have h2:=a7L a b i (j+1)
  have h3:=a7L a b (i+1) j
  rw [a6C]
  split<;>split<;>split<;>omega
end Go.Fk
