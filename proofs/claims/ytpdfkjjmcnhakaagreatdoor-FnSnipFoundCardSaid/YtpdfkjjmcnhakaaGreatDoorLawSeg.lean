/-
  What the reference makes of documents: the segment. Of no program.
-/
import Derived.Test.YtpdfkjjmcnhakaaGreatDoorLawOrd
import Derived.Test.YtpdfkjjmcnhakaaGreatDoorLawTermsA
import Derived.Test.YtpdfkjjmcnhakaaGreatDoorLawDocs
set_option linter.unusedVariables false
namespace Go.Fk
open Go
theorem b18 (F:Nat)(l:List l3)(s:l3)(hl:l.length≤1000000)(hF:l.length<F):Q1 F l s=some (a1V s l):=by
 unfold Q1
 have hw: ∀f,(∀(i:Nat) x,l[i]? =some x→f (i:Int)=some (if y7 x s then .inl ((i+1:Nat):Int) else .inr (i:Int)))→f (l.length:Int)=some (.inr (l.length:Int))→u0 f F (0:Int)=some ((a0G s l:Nat):Int):=fun f a b=>by
  have:=a7a (f:=f) a b l.length 0 F (by omega) (by omega)
  rwa [List.drop_zero,Nat.zero_add] at this
 rw [hw _ (fun i x hx=>?_) ?_]
 ·have hr:=b1O s l
  have c1:Z6 l 0 ((a0G s l:Nat):Int)=some (l.take (a0G s l)):=by
   unfold Z6
   rw [if_pos ⟨by omega,by omega,by omega⟩]
   simp
  have c2:Z6 l ((a0G s l:Nat):Int) (l.length:Int)=some (l.drop (a0G s l)):=a4T hr
  have l1:(l.take (a0G s l)).length≤1000000:=by simp;omega
  have l2:(l.drop (a0G s l)).length≤1000000:=by simp;omega
  have l0:([]:List l3).length=0:=rfl
  have hc:(cond (decide (((a0G s l:Nat):Int)<(l.length:Int))) (Option.bind (p8 l ((a0G s l:Nat):Int)) fun x57=>some (x57==s)) (some false))=some ((l[a0G s l]?).elim false fun x=>x==s):=by
   rcases Nat.lt_or_ge (a0G s l) l.length with h | h
   ·rw [b8 (by omega),j6,l8,i6 h];rfl
   ·rw [c6 (by omega),List.getElem?_eq_none h];rfl
  rw [a8,a8,hc,a8,b1C,M0]
  cases (l[a0G s l]?).elim false fun x=>x==s
  ·simp only [i9]
   rw [c1,a8,F5 (by omega),List.nil_append,a8,F5 (by simp only [l6];omega),a8,c2,a8,
    F5 (by simp only [j8,l6];omega),a8]
  ·rfl
 ·rw [c6 (by omega)];rfl
 ·have hi:=(g8.1 hx).1
  rw [b8 (by omega),j6,l8,hx,a8,a8,u4 (by omega)]
  cases y7 x s<;>rfl
def C3 (d:u1)(n:l3):l3:=(d.Fields.find? fun f=>f.Name==n).elim [] (·.Text)
def a5g (a:List l3)(ts:List w8):List l3:=ts.foldl (fun a t=>a1V t.Text a) a
def a07 (docs:List u1):List l3:=docs.foldl (fun a d=>d.Fields.foldl (fun a f=>a1V f.Name a) a) []
def Q7 (c:o0)(docs:List u1)(n:l3):List l3:=docs.foldl (fun a d=>a5g a (u2 c (C3 d n))) []
def T0 (c:o0)(d:u1)(n t:l3):List Int:=(u2 c (C3 d n)).flatMap fun x=>if x.Text==t then [x.At] else []
def I2 (c:o0)(n t:l3)(d:u1):List D1:=if decide (0<(T0 c d n t).length) then [⟨d.Id,T0 c d n t⟩] else []
def P6 (c:o0)(docs:List u1)(n t:l3):v8:=⟨n,t,docs.flatMap (I2 c n t)⟩
def X4 (c:o0)(docs:List u1):A2:=⟨docs,(a07 docs).flatMap fun n=>(Q7 c docs n).map (P6 c docs n)⟩
theorem a6B {d:u1}(hd:a3Y d)(n:l3):(C3 d n).length≤1000:=by
 unfold C3
 cases h:d.Fields.find? fun f=>f.Name==n with
 | none=>simp
 | some f=>exact(hd.field f (List.mem_of_find?_eq_some h)).2
theorem a85 (F:Nat)(d:u1)(n:l3)(hd:a3Y d)(hF:200<F):S4 F d n=some (C3 d n):=by
 have h1:=hd.fields
 unfold S4
 rw [a3D (xs:=d.Fields) (fun f=>f.Name==n) (fun f=>(Sum.inr f.Text:Unit⊕l3)) (e:=Sum.inl ()) F (by omega) (fun i x hx=>?_) ?_]
 ·unfold C3
  cases d.Fields.find? fun f=>f.Name==n<;>rfl
 ·rw [c6 (by omega)];rfl
 ·have hi:=(g8.1 hx).1
  rw [b8 (by omega),j6,l8,hx,a8,a8,u4 (by omega),M0]
  cases x.Name==n<;>rfl
theorem a86 (F:Nat)(docs:List u1)(hd:X5 docs)(hF:200000<F):Z1 F docs=some (a07 docs)∧(a07 docs).length≤10000:=by
 have hfew:=hd.few
 unfold Z1 a07
 have key:=Z4 (xs:=docs) (fun a d=>d.Fields.foldl (fun a f=>a1V f.Name a) a) (fun i (a:List l3)=>a.length≤i*100) id (fun a i=>(a,i))
  (f:=fun s22=>(cond (decide (s22.2<(docs.length:Int))) (Option.bind ((Option.bind (u0 (σ:=(List l3)×Int) (τ:=(List l3)) (fun (s51:(List l3)×Int)=>(Option.bind (p8 docs s22.2) fun x67=>(cond (decide (s51.2<(x67.Fields.length:Int))) (Option.bind (p8 docs s22.2) fun x87=>(Option.bind (p8 x87.Fields s51.2) fun x105=>(Option.bind (Q1 F s51.1 x105.Name) fun r116=>(some (.inl (r116,(y8 (s51.2+(1:Int))))))))) (some (.inr s51.1))))) F (s22.1,(0:Int))) fun r52=>(some r52)):Option (List l3)) fun o40=>(some (.inl (o40,(y8 (s22.2+(1:Int))))))) (some (.inr s22.1))))
  [] rfl F (by omega) (by simp) (fun i d a hx ha=>?_) (fun a ha=>?_)
 ·obtain⟨k1,k2⟩:=key
  refine⟨?_,?_⟩
  ·rw [k1];rfl
  ·have:docs.length*100≤10000:=by omega
   omega
 ·have hi:=(g8.1 hx).1
  have hdd:=hd.doc d (m8 hx)
  have hfl:=hdd.fields
  have inner:=Z4 (xs:=d.Fields) (fun a (f:I3)=>a1V f.Name a) (fun j (b:List l3)=>b.length≤i*100+j) id (fun a i=>(a,i))
   (f:=fun (s51:(List l3)×Int)=>(Option.bind (p8 docs (i:Int)) fun x67=>(cond (decide (s51.2<(x67.Fields.length:Int))) (Option.bind (p8 docs (i:Int)) fun x87=>(Option.bind (p8 x87.Fields s51.2) fun x105=>(Option.bind (Q1 F s51.1 x105.Name) fun r116=>(some (.inl (r116,(y8 (s51.2+(1:Int))))))))) (some (.inr s51.1)))))
   a rfl F (by omega) (by omega) (fun j f b hf hb=>?_) (fun b hb=>?_)
  ·obtain⟨k1,k2⟩:=inner
   refine⟨?_,by omega⟩
   simp only
   rw [b8 (by omega),j6,k1,a8,a8,u4 (by omega)]
   rfl
  ·have hj:=(g8.1 hf).1
   have hil:=a5Z f.Name b
   refine⟨?_,by omega⟩
   simp only
   rw [l8,hx,a8,b8 (by omega),j6,a8,l8,hf,a8,b18 F b _ (by omega) (by omega),a8,u4 (by omega)]
  ·simp only
   rw [l8,hx,a8,c6 (by omega)];rfl
 ·simp only
  rw [c6 (by omega)];rfl
theorem a5X {α σ:Type}{g:σ→α→σ}(I:Nat→σ→Prop): ∀(xs:List α) (i:Nat) (s:σ),I i s→(∀i x s,x∈xs→I i s→I (i+1) (g s x))→I (i+xs.length) (xs.foldl g s)
 | [],i,s,h,_=>h
 | x::r,i,s,h,hg=>by
  rw [List.foldl_cons,l9,show i+(r.length+1)=i+1+r.length by omega]
  exact a5X I r (i+1) _ (hg i x s (by simp) h) fun i y s hy=>hg i y s (by simp [hy])
theorem b1M (ts:List w8)(a:List l3):(a5g a ts).length≤a.length+ts.length:=by
 have:=a5X (g:=fun a (t:w8)=>a1V t.Text a) (fun i b=>b.length≤a.length+i) ts 0 a (by omega) (fun i t b _ hb=>by have:=a5Z t.Text b;show (a1V t.Text b).length≤_;omega)
 unfold a5g;omega
theorem a4M {c:o0}{d:u1}(hd:a3Y d)(n:l3):(u2 c (C3 d n)).length≤1000:=by
 have:=W6 c (C3 d n)
 have:=a6B hd n
 omega
theorem a8l (c:o0){docs:List u1}(hd:X5 docs)(n:l3):(Q7 c docs n).length≤100000:=by
 have hfew:=hd.few
 have:=a5X (g:=fun a d=>a5g a (u2 c (C3 d n))) (fun i b=>b.length≤i*1000) docs 0 [] (by simp) (fun i d b hm hb=>by have:=b1M (u2 c (C3 d n)) b;have:=a4M (c:=c) (hd.doc d hm) n;show (a5g b _).length≤_;omega)
 unfold Q7;omega
theorem b17 (F:Nat)(c:o0)(docs:List u1)(n:l3)(hc:I4 c=true)(hd:X5 docs)(hF:200000<F):Z2 F c docs n=some (Q7 c docs n):=by
 have hfew:=hd.few
 unfold Z2 Q7
 rw [(Z4 (xs:=docs) (fun a d=>a5g a (u2 c (C3 d n))) (fun i (a:List l3)=>a.length≤i*1000) id (fun a i=>(a,i)) [] rfl F (by omega) (by simp) (fun i d a hx ha=>?_) (fun a ha=>?_)).1]
 ·rfl
 ·have hi:=(g8.1 hx).1
  have hdd:=hd.doc d (m8 hx)
  have hfl:=a6B hdd n
  have hone:=a4M (c:=c) hdd n
  refine⟨?_,?_⟩
  ·simp only
   rw [b8 (by omega),j6,l8,hx,a8,a85 F d n hdd (by omega),a8,a3L F c _ hc (by omega) (by omega),a8]
   rw [(Z4 (xs:=u2 c (C3 d n)) (fun a (t:w8)=>a1V t.Text a) (fun j (b:List l3)=>b.length≤i*1000+j) id (fun a i=>(a,i)) a rfl F (by omega) (by rw [Nat.add_zero];exact ha) (fun j t b ht hb=>?_) (fun b hb=>?_)).1,a8,a8,u4 (by omega)]
   ·rfl
   ·have hj:=(g8.1 ht).1
    have hil:=a5Z t.Text b
    refine⟨?_,by omega⟩
    simp only
    rw [b8 (by omega),j6,l8,ht,a8,b18 F b _ (by omega) (by omega),a8,u4 (by omega)]
   ·simp only
    rw [c6 (by omega)];rfl
  ·have:=b1M (u2 c (C3 d n)) a
   omega
 ·simp only
  rw [c6 (by omega)];rfl
theorem b59 {c:o0}{d:u1}(hd:a3Y d)(n t:l3):(T0 c d n t).length≤1000:=by
 have h1:=U0 (g:=fun x:w8=>if x.Text==t then [x.At] else []) (m:=1) (u2 c (C3 d n)) (fun x _=>by split<;>simp)
 have h2:=a4M (c:=c) hd n
 unfold T0;omega
theorem b47 (F:Nat)(c:o0)(d:u1)(n t:l3)(hc:I4 c=true)(hd:a3Y d)(hF:200000<F):a0C F c d n t=some (T0 c d n t):=by
 have hfl:=a6B hd n
 have hone:=a4M (c:=c) hd n
 have hpl:=b59 (c:=c) hd n t
 unfold a0C
 rw [a85 F d n hd (by omega),a8,a3L F c _ hc (by omega) (by omega),a8]
 rw [b1l (xs:=u2 c (C3 d n)) (fun x:w8=>if x.Text==t then [x.At] else []) 1000 F (by omega) (fun i x acc hx hB=>?_) (fun acc=>?_) [] (by rw [List.nil_append];exact hpl),List.nil_append,a8,a8]
 ·rfl
 ·have hi:=(g8.1 hx).1
  rw [b8 (by omega),j6,l8,hx,a8,a8,u4 (by omega)]
  revert hB
  rw [M0]
  cases x.Text==t
  ·intro _;simp
  ·intro hB
   simp only [j6] at hB ⊢
   rw [F5 (by simp at hB ⊢;omega)];rfl
 ·rw [c6 (by omega)];rfl
theorem a60 (c:o0)(n t:l3)(d:u1):(I2 c n t d).length≤1:=by unfold I2;split<;>simp
theorem b24 (F:Nat)(c:o0)(docs:List u1)(n t:l3)(hc:I4 c=true)(hd:X5 docs)(hF:200000<F):Z0 F c docs n t=some (P6 c docs n t):=by
 have hfew:=hd.few
 unfold Z0
 have hfold:P6 c docs n t=docs.foldl (fun e d=>v8.mk e.Field e.Term (e.Posts++I2 c n t d)) (v8.mk n t []):=by
  have gen: ∀(l:List u1) (ps:List D1),l.foldl (fun e d=>v8.mk e.Field e.Term (e.Posts++I2 c n t d)) (v8.mk n t ps)=v8.mk n t (ps++l.flatMap (I2 c n t)):=by
   intro l
   induction l with
   | nil=>intro ps;simp
   | cons d r ih=>intro ps;rw [List.foldl_cons,ih,List.flatMap_cons,List.append_assoc]
  rw [gen];rfl
 rw [hfold]
 rw [(Z4 (xs:=docs) (fun e d=>v8.mk e.Field e.Term (e.Posts++I2 c n t d)) (fun i (e:v8)=>e.Posts.length≤i∧e.Field=n∧e.Term=t) id (fun e i=>(i,e)) (v8.mk n t []) rfl F (by omega) ⟨by simp,rfl,rfl⟩ (fun i d e hx ⟨he,e1,e2⟩=>?_) (fun a ha=>?_)).1]
 ·rfl
 ·have hi:=(g8.1 hx).1
  have hdd:=hd.doc d (m8 hx)
  have hp1:=a60 c n t d
  refine⟨?_,by simp only [j8];omega,e1,e2⟩
  simp only
  rw [b8 (by omega),j6,l8,hx,a8,b47 F c d n t hc hdd hF,a8,a8,u4 (by omega)]
  unfold I2
  by_cases h0:0<(T0 c d n t).length
  ·rw [b8 (by omega),j6,F5 (by simp only [l6];omega),a8,b8 h0,if_pos rfl]
  ·rw [c6 (by omega),i9,c6 h0,if_neg (by simp),List.append_nil]
 ·simp only
  rw [c6 (by omega)];rfl
theorem a9V {docs:List u1}(hd:X5 docs):(a07 docs).length≤10000:=(a86 200001 docs hd (by omega)).2
theorem b6o {c:o0}{docs:List u1}{ns:List l3}: ∀(l:List l3) (es:List v8),l.foldl (fun s n=>(Q7 c docs n).foldl (fun s t=>A2.mk s.Docs (s.Entries++[P6 c docs n t])) s) (A2.mk [] es)=A2.mk [] (es++l.flatMap fun n=>(Q7 c docs n).map (P6 c docs n)):=by
 intro l
 induction l with
 | nil=>intro es;simp
 | cons n r ih=>
  intro es
  have inner: ∀(ts:List l3) (es:List v8),ts.foldl (fun s t=>A2.mk s.Docs (s.Entries++[P6 c docs n t])) (A2.mk [] es)=A2.mk [] (es++ts.map (P6 c docs n)):=by
   intro ts
   induction ts with
   | nil=>intro es;simp
   | cons t r ih=>intro es;rw [List.foldl_cons,ih,List.map_cons,List.append_assoc];rfl
  rw [List.foldl_cons,inner,ih,List.flatMap_cons,List.append_assoc]
theorem b4k {es:List v8}: ∀(l ds:List u1),l.foldl (fun s d=>A2.mk (s.Docs++[d]) s.Entries) (A2.mk ds es)=A2.mk (ds++l) es:=by
 intro l
 induction l with
 | nil=>intro ds;simp
 | cons d r ih=>intro ds;rw [List.foldl_cons,ih,List.append_assoc];rfl
theorem b19 (F:Nat)(c:o0)(docs:List u1)(hc:I4 c=true)(hd:X5 docs)(hF:200000<F):a0Q F c docs=some (X4 c docs):=by
 have hfew:=hd.few
 have hnl:=a9V hd
 unfold a0Q
 rw [(a86 F docs hd hF).1,a8]
 rw [(Z4 (xs:=a07 docs) (fun s n=>(Q7 c docs n).foldl (fun s t=>A2.mk s.Docs (s.Entries++[P6 c docs n t])) s) (fun i (s:A2)=>s.Entries.length≤i*100000) id (fun e i=>(i,e)) (A2.mk [] []) rfl F (by omega) (by simp) (fun i n s hx hs=>?_) (fun a ha=>?_)).1]
 ·rw [b6o (ns:=[]),a8,a8]
  rw [(Z4 (xs:=docs) (fun s d=>A2.mk (s.Docs++[d]) s.Entries) (fun i (s:A2)=>s.Docs.length≤i) id (fun e i=>(i,e)) _ rfl F (by omega) (by simp) (fun i d s hx hs=>?_) (fun a ha=>?_)).1]
  ·rw [b4k,a8,a8];rfl
  ·have hi:=(g8.1 hx).1
   have hdd:=hd.doc d (m8 hx)
   have hf1:=hdd.fields
   have hf2:=hdd.nums
   refine⟨?_,by simp only [j8,l6];omega⟩
   simp only
   rw [b8 (by omega),j6,l8,hx,a8,b22 F d (by omega) (by omega),a8,F5 (by simp only [l6];omega),a8,u4 (by omega)]
  ·simp only
   rw [c6 (by omega)];rfl
 ·have hi:=(g8.1 hx).1
  have hft:=a8l c hd n
  have inner:=a5X (g:=fun s t=>A2.mk s.Docs (s.Entries++[P6 c docs n t])) (fun j (b:A2)=>b.Entries.length≤i*100000+j) (Q7 c docs n) 0 s (by rw [Nat.add_zero];exact hs) (fun j t b _ hb=>by simp only [j8,l6];omega)
  refine⟨?_,by omega⟩
  simp only
  rw [b8 (by omega),j6,l8,hx,a8,b17 F c docs n hc hd hF,a8]
  rw [(Z4 (xs:=Q7 c docs n) (fun s t=>A2.mk s.Docs (s.Entries++[P6 c docs n t])) (fun j (b:A2)=>b.Entries.length≤i*100000+j) id (fun e i=>(i,e)) s rfl F (by omega) (by rw [Nat.add_zero];exact hs) (fun j t b ht hb=>?_) (fun b hb=>?_)).1,a8,a8,u4 (by omega)]
  ·rfl
  ·have hj:=(g8.1 ht).1
   refine⟨?_,by simp only [j8,l6];omega⟩
   simp only
   rw [b8 (by omega),j6,a8,l8,ht,a8,b24 F c docs n t hc hd hF,a8,F5 (by simp only [l6];omega),a8,u4 (by omega)]
  ·simp only
   rw [c6 (by omega)];rfl
 ·simp only
  rw [c6 (by omega)];rfl
end Go.Fk
