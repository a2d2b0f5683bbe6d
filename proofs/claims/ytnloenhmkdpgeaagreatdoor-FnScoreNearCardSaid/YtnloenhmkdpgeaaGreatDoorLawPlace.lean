/-
  A phrase of two words that follow each other: what it is worth. The law, on the models.
-/
import Derived.Test.YtnloenhmkdpgeaaGreatDoorLawScoreX
import Derived.Test.YtnloenhmkdpgeaaGreatDoorLawSegP
set_option linter.unusedVariables false
namespace Go.Fk
open Go
def W8:List r4:=[[99,97,116],[100,111,103],[114,117,110],[110,121],[110,101,119],[102,111,120],[122,122],[108,97,114,103]]
def b1Q (l:List a0g):List (r4×Int):=l.map fun w=>(w.Text,w.At)
theorem c5k: ∀a∈W8,∀b∈W8,(a0j 100 (a++[32]++b)).map b1Q=some [(a,0),(b,1)]∧a2n (a++[32]++b)=true:=by decide +kernel
theorem c5j: ∀a∈W8,(a0j 100 a).map b1Q=some [(a,0)]∧a2n a=true:=by decide +kernel
theorem a8U: ∀a∈W8,D0 a=true∧a0A a=a∧2≤a.length∧a.length≤4:=by decide +kernel
def b8v (stops:List r4)(p:r4×Int):List D3:=if !stops.any (· ==p.1)&& !stops.any (· ==a01 p.1) then [⟨a01 p.1,p.2⟩] else []
theorem b2a (c:u6)(s:r4):a1X c s=(b1Q (a1c s)).flatMap (b8v c.Stops):=by
 unfold a1X b1Q
 rw [List.flatMap_map];rfl
theorem c1i {a b:r4}(ha:a∈W8)(hb:b∈W8):b1Q (a1c (a++[32]++b))=[(a,0),(b,1)]:=by
 obtain⟨h1,h2⟩:=c5k a ha b hb
 have k1:=(a8U a ha).2.2.2
 have k2:=(a8U b hb).2.2.2
 rw [a9X 100 _ (by simp only [o0,l8];omega) (by simp only [o0,l8];omega),h2,if_pos rfl,Option.map_some,Option.some.injEq] at h1
 exact h1
theorem c1h {a:r4}(ha:a∈W8):b1Q (a1c a)=[(a,0)]:=by
 obtain⟨h1,h2⟩:=c5j a ha
 have k1:=(a8U a ha).2.2.2
 rw [a9X 100 _ (by omega) (by omega),h2,if_pos rfl,Option.map_some,Option.some.injEq] at h1
 exact h1
theorem b7p: ∀(n:Nat) (l:List D3),l.length≤n→a4F [] n l=l
 | 0,[],_=>rfl
 | 0,t::r,h=>by simp at h
 | n+1,[],_=>rfl
 | n+1,t::r,h=>by
  show t::a4F [] n r=t::r
  rw [b7p n r (by simpa using h)]
theorem a8S {c:u6}(hc:c.Syns=[])(s:r4):G2 c s=a1X c s:=by
 unfold G2
 rw [hc]
 exact b7p _ _ (Nat.le_refl _)
theorem b3Z {stops:List r4}{a:r4}(ha:a∈W8)(i:Int):b8v stops (a,i)=if stops.any (· ==a) then [] else [⟨a,i⟩]:=by
 unfold b8v
 rw [a9c (a8U a ha).2.1]
 cases stops.any (· ==a)<;>rfl
theorem b9I {c:u6}(hs:c.Syns=[]){a:r4}(ha:a∈W8)(h:(Y8 c a==[])=false):c.Stops.any (· ==a)=false∧Y8 c a=a:=by
 unfold Y8 at h ⊢
 rw [a8S hs,b2a,c1h ha,List.flatMap_singleton,b3Z ha] at h ⊢
 cases hc:D0 a&&Y6 c with
 | false=>rw [hc,if_neg (by decide)] at h;exact absurd h (by decide)
 | true=>
  rw [hc,if_pos rfl] at h
  rw [if_pos rfl]
  cases hb:c.Stops.any (· ==a) with
  | true=>rw [hb,if_pos rfl] at h;exact absurd h (by decide)
  | false=>exact⟨rfl,rfl⟩
theorem c08 {c:u6}(hs:c.Syns=[]){a b:r4}(ha:a∈W8)(hb:b∈W8)(h1:c.Stops.any (· ==a)=false)(h2:c.Stops.any (· ==b)=false):G2 c (X0 [a,b])=[⟨a,0⟩,⟨b,1⟩]:=by
 rw [a4Q,a6W,a8S hs,b2a,c1i ha hb,List.flatMap_cons,List.flatMap_singleton,b3Z ha,b3Z hb,h1,h2]
 rfl
def a9H (t:r4)(x:D3):List Int:=if x.Text==t then [x.At] else []
theorem c3r {b:UInt8}{r:r4}(hb:isW b=true):0<((b::r).takeWhile isW).length:=by rw [List.takeWhile_cons,if_pos hb];simp
theorem b1G (stops:List r4){t:r4}(ht:2≤t.length): ∀(n:Nat) (s:r4) (o k:Nat),s.length≤n→
  (∀x∈((Q3 s o k).flatMap (P9 stops)).flatMap (a9H t),(k:Int)≤x)∧(((Q3 s o k).flatMap (P9 stops)).flatMap (a9H t)).Pairwise (fun a b=>a<b)∧
  3*(((Q3 s o k).flatMap (P9 stops)).flatMap (a9H t)).length≤s.length+1
 | n,[],o,k,_=>by rw [Y3];exact⟨fun x hx=>(by cases hx),List.Pairwise.nil,by simp⟩
 | 0,b::r,o,k,h=>by simp at h
 | n+1,b::r,o,k,h=>by
  rw [Q3]
  by_cases hb:isW b=true
  ·rw [if_pos hb,List.flatMap_cons,List.flatMap_append]
   have hpos:=c3r (r:=r) hb
   have hrun:=(List.takeWhile_prefix (l:=b::r) isW).length_le
   -- behind the word comes a byte that is none, or the end
   generalize hL:((b::r).takeWhile isW).length=L at *
   have hrest: ∀o':Nat,(∀x∈((Q3 ((b::r).drop L) o' (k+1)).flatMap (P9 stops)).flatMap (a9H t),((k+1:Nat):Int)≤x)∧(((Q3 ((b::r).drop L) o' (k+1)).flatMap (P9 stops)).flatMap (a9H t)).Pairwise (fun a b=>a<b)∧
     3*(((Q3 ((b::r).drop L) o' (k+1)).flatMap (P9 stops)).flatMap (a9H t)).length+L≤(b::r).length+(if ((b::r).drop L).length=0 then 0 else 0)+(if L=(b::r).length then 0 else 0):=fun o'=>by
    cases hd:(b::r).drop L with
    | nil=>
     rw [Y3]
     exact⟨fun x hx=>(by cases hx),List.Pairwise.nil,by simpa using hrun⟩
    | cons y z=>
     have hy:isW y=false:=by
      have:=b3a (s:=b::r) (p:=0)
      rw [List.drop_zero,Nat.zero_add,hL] at this
      have e:(b::r)[L]? =some y:=by rw [←List.head?_drop,hd];rfl
      rcases this with h0 | ⟨y',h0,h1⟩
      ·rw [h0] at e;cases e
      ·rw [h0] at e;cases e;exact h1
     have hlen:(b::r).length=L+(z.length+1):=by
      have:=congrArg List.length hd
      have hh:(b::r).length=r.length+1:=rfl
      rw [List.length_drop] at this
      have hz:(y::z).length=z.length+1:=rfl
      omega
     have ih:=b1G stops ht n z (o'+1) (k+1) (by omega)
     rw [Q3,if_neg (by rw [hy];decide)]
     refine⟨ih.1,ih.2.1,?_⟩
     have:=ih.2.2
     rw [hlen]
     simp only [ite_self]
     omega
   obtain⟨i1,i2,i3⟩:=hrest (o+L)
   simp only [ite_self,Nat.add_zero] at i3
   have hfirst:((P9 stops ⟨(((b::r).takeWhile isW).map a3A).take 12,(k:Int),(o:Int),((o+L:Nat):Int)⟩).flatMap (a9H t))=[]∨
     (((P9 stops ⟨(((b::r).takeWhile isW).map a3A).take 12,(k:Int),(o:Int),((o+L:Nat):Int)⟩).flatMap (a9H t))=[(k:Int)]∧2≤L):=by
    unfold P9
    split
    ·simp only [List.flatMap_singleton,a9H]
     split
     ·rename_i he
      refine .inr ⟨rfl,?_⟩
      have he:=eq_of_beq he
      have:=b4l ((((b::r).takeWhile isW).map a3A).take 12)
      rw [he,List.length_take,List.length_map,hL] at this
      omega
     ·exact .inl rfl
    ·exact .inl rfl
   rcases hfirst with e | ⟨e,h2⟩
   ·rw [e,List.nil_append]
    exact⟨fun x hx=>by have:=i1 x hx;omega,i2,by omega⟩
   ·rw [e]
    refine⟨fun x hx=>?_,List.pairwise_append.2 ⟨List.pairwise_singleton _ _,i2,fun x hx y hy=>?_⟩,?_⟩
    ·rcases List.mem_append.1 hx with hx | hx
     ·rw [List.mem_singleton.1 hx];omega
     ·have:=i1 x hx;omega
    ·rw [List.mem_singleton.1 hx]
     have:=i1 y hy;omega
    ·rw [o0,l8]
     omega
  ·rw [if_neg hb]
   have ih:=b1G stops ht n r (o+1) k (by simpa using h)
   refine⟨ih.1,ih.2.1,?_⟩
   rw [s6]
   have:=ih.2.2
   omega
theorem c0A {α:Type}{ok:α→Bool}{lt:α→α→Bool}{xs:List α}(h1: ∀x∈xs,ok x=true)(h2:xs.Pairwise fun a b=>lt a b=true):a3x ok lt xs=true:=by
 unfold a3x
 rw [List.all_eq_true]
 rintro⟨x,i⟩ hq
 obtain⟨j,hj⟩:=List.mem_iff_getElem?.1 hq
 obtain⟨k1,k2⟩:=b4w hj
 simp only at k1 k2
 subst k2
 obtain⟨hi,he⟩:=i4.1 k1
 unfold b0R
 simp only
 rw [h1 x (n5 k1),u5]
 rcases Nat.eq_zero_or_pos i with rfl | hp
 ·rfl
 ·have hl:i-1<xs.length:=by omega
  rw [j8 hl]
  have:=List.pairwise_iff_getElem.1 h2 (i-1) i hl hi (by omega)
  rw [he] at this
  simp [this]
theorem c3L {c:u6}{s:A5}(ho:G9 c s=true)(hs:c.Syns=[])(n:r4){t:r4}(ht:2≤t.length)(id:Int):upQ (atS s n t id)=true:=by
 obtain⟨_,h2,h3⟩:=a0w ho
 have hr:=a9O ho n t id
 have hp:(atS s n t id).Pairwise (fun a b=>a<b)∧3*(atS s n t id).length≤161:=by
  rw [h3]
  by_cases h0:(atS (a1F c s.Docs) n t id).length=0
  ·rw [List.length_eq_zero_iff.1 h0]
   exact⟨List.Pairwise.nil,by simp⟩
  ·obtain⟨d,hd,_,he⟩:=b5A h0
   have h160:=b4S (b1h h2 d hd) n
   have hu:=b1G c.Stops ht _ (H7 d n) 0 0 (Nat.le_refl _)
   have e:U5 c d n t=((Q3 (H7 d n) 0 0).flatMap (P9 c.Stops)).flatMap (a9H t):=by
    unfold U5
    rw [a8S hs];rfl
   rw [he,e]
   exact⟨hu.2.1,by omega⟩
 unfold upQ
 rw [c0A (fun x hx=>?_) (hp.1.imp fun h=>b8 h),u5,b8 (by omega)]
 have:=hr.1 x hx
 unfold okN
 rw [b8 this.1,b8 (by omega)];rfl
theorem b46 {sh:Int}(h:sh=0){l:List Int}(hl: ∀x∈l,0≤x):l.flatMap (a9A sh)=l:=by
 subst h
 induction l with
 | nil=>rfl
 | cons x r ih=>
  rw [List.flatMap_cons,ih fun y hy=>hl y (.tail _ hy),a9A,if_pos (b8 (hl x (.head _)))]
  show (x-0)::r=x::r
  rw [Int.sub_zero]
theorem c0q {c:u6}{s:A5}(ho:G9 c s=true)(f a b:r4)(id:Int):a24 s f id [⟨a,0⟩,⟨b,1⟩]=[atS s f a id,atS s f b id]:=by
 have e1:=b46 (sh:=a29 [⟨a,0⟩,⟨b,1⟩] (⟨a,0⟩,0)) (l:=atS s f a id) rfl fun x hx=>((a9O ho f a id).1 x hx).1
 have e2:=b46 (sh:=a29 [⟨a,0⟩,⟨b,1⟩] (⟨b,1⟩,1)) (l:=atS s f b id) rfl fun x hx=>((a9O ho f b id).1 x hx).1
 exact congr (congrArg List.cons e1) (congrArg (fun l=>[l]) e2)
theorem b91 (F:Nat)(r:z7)(hr:b6l r 900000): ∃s p,a2a F r=some (s,⟨r.b_,p⟩)∧b2n r p 1∧D0 s=true:=by
 obtain⟨h1,h2,h3⟩:=hr
 unfold a2a
 obtain⟨s,hs,e⟩:=a8q F r [[98,111,100,121],[98,111,100,121],[116,105,116,108,101],[110,111,110,101]] ⟨h1,h2,by omega⟩ (by simp)
 rw [e,a8]
 exact⟨s,_,rfl,⟨by omega,by omega⟩,(by decide : ∀s∈([[98,111,100,121],[98,111,100,121],[116,105,116,108,101],[110,111,110,101]]:List r4),D0 s=true) s hs⟩
theorem a49 (F:Nat)(code:List UInt8)(hF:200000<F): ∃c s n t,O1 F code=some (c,s,n,t)∧a1K 100 c∧X3 s.Docs∧D0 n=true∧t∈W8:=by
 unfold O1
 obtain⟨r,hr,h1,h2⟩:=b0Q F code
 rw [hr,a8]
 obtain⟨c,s,p,hs,⟨p0,p1⟩,hcd,hsf,_⟩:=a8Y F r ⟨h1,by omega,by omega⟩ hF
 rw [hs,a8]
 dsimp only
 obtain⟨n,q,hn,⟨q0,q1⟩,hw⟩:=b91 F ⟨r.b_,p⟩ ⟨h1,by simp only;omega,by simp only;omega⟩
 simp only at q0 q1
 rw [hn,a8]
 dsimp only
 obtain⟨t,h8,ht⟩:=a8q F ⟨r.b_,q⟩ [[99,97,116],[100,111,103],[114,117,110],[110,121],[110,101,119],[102,111,120],[122,122],[108,97,114,103]] ⟨h1,by simp only;omega,by simp only;omega⟩ (by simp)
 rw [ht,a8]
 exact⟨_,_,_,_,rfl,hcd.fit,hsf,hw,h8⟩
theorem c4J (F:Nat)(s:A5)(n t:r4)(id:Int)(hp:(G3 s n t).length≤10000)(hF:20000<F):a5m F (G3 s n t) id=some (atS s n t id):=by
 unfold a5m atS
 rw [a0u (xs:=G3 s n t) (fun p=>p.Doc==id) (fun p=>(.inr p.At:Unit⊕List Int)) (e:=.inl ()) F (by omega) (fun i x hx=>?_) ?_]
 ·cases (G3 s n t).find? (fun p=>p.Doc==id)<;>rfl
 ·rw [c6 (by omega)];rfl
 ·have hi:=(i4.1 hx).1
  rw [b8 (by omega),j4,n8,hx,a8,a8,y5 (by omega)]
  cases x.Doc==id<;>rfl
theorem c4b (F:Nat)(l:List Int)(n:Int)(hl:l.length≤10000)(hF:20000<F):a1H F l n=some (l.any (· ==n)):=by
 unfold a1H
 rw [a0u (xs:=l) (fun p=>p==n) (fun p=>(.inr true:Unit⊕Bool)) (e:=.inl ()) F (by omega) (fun i x hx=>?_) ?_]
 ·cases hf:l.find? (fun p=>p==n) with
  | none=>
   have:l.any (· ==n)=false:=by
    rw [List.any_eq_false]
    exact fun x hx=>by simpa using List.find?_eq_none.1 hf x hx
   rw [this];rfl
  | some x=>
   have:l.any (· ==n)=true:=List.any_eq_true.2 ⟨x,List.mem_of_find?_eq_some hf,List.find?_some (p:=fun p:Int=>p==n) hf⟩
   rw [this];rfl
 ·rw [c6 (by omega)];rfl
 ·have hi:=(i4.1 hx).1
  rw [b8 (by omega),j4,n8,hx,a8,y5 (by omega)]
  cases x==n<;>rfl
theorem a86 {c:u6}{s:A5}{q:q7}(hq:a3D q)(ho:G9 c s=true){x:A1}(hx:x∈s.Docs):L7 c s 1 q x.Id=b0y c s q x:=by
 unfold L7
 rw [if_pos ho,a5V ho hx]
 show C2 c s 1 q x=_
 rw [C2,if_pos (a85 hq)]
theorem b3I {α:Type}{o:Option α}{m:α}(h: ∃t,o=some t∧t=m):o=some m:=by
 obtain⟨t,h1,h2⟩:=h
 rw [h1,h2]
def c0s (n:Nat):Nat:=if n<3 then n else 3
end Go.Fk
