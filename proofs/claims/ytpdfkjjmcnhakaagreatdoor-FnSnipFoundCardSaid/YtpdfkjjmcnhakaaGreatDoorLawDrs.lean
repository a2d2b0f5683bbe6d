import Derived.Test.YtpdfkjjmcnhakaaGreatDoorLawRdAll
import Derived.Test.YtpdfkjjmcnhakaaGreatDoorLawDocs
import Derived.Test.YtpdfkjjmcnhakaaGreatDoorLawSegKL
import Derived.Test.YtpdfkjjmcnhakaaGreatDoorLawQs
/-
  The draws of documents go through, whatever the code. Of no program.
-/
namespace Go.Fk
open Go
def b0b (r:y2)(p:Int)(c:Nat):Prop:=r.p_≤p∧p≤r.p_+c
def b4e (r:y2)(m:Nat):Prop:=r.b_.length≤2000∧0≤r.p_∧r.p_≤m
structure L2 (f n:Nat)(d:u1):Prop where
 fields:d.Fields.length≤f
 nums:d.Nums.length≤n
 field: ∀f∈d.Fields,f.Name.length≤1000∧f.Text.length≤1000
 num: ∀a∈d.Nums,a.Name.length≤1000
theorem L2.fit {f n:Nat}{d:u1}(h:L2 f n d)(hf:f≤100)(hn:n≤100):a3Y d:=⟨by have:=h.fields;omega,by have:=h.nums;omega,h.field,h.num⟩
theorem L2.putField {f n:Nat}{i:Int}{a:List I3}{b:List a1J}(h:L2 f n ⟨i,a,b⟩)(x:I3)(hx:x.Name.length≤1000∧x.Text.length≤1000):L2 (f+1) n ⟨i,a++[x],b⟩:=by
 refine⟨by have:=h.fields;simp only [j8,l6] at this ⊢;omega,h.nums,fun y hy=>?_,h.num⟩
 rcases List.mem_append.1 hy with hy | hy
 ·exact h.field y hy
 ·rw [List.mem_singleton.1 hy];exact hx
theorem L2.putNum {f n:Nat}{i:Int}{a:List I3}{b:List a1J}(h:L2 f n ⟨i,a,b⟩)(x:a1J)(hx:x.Name.length≤1000):L2 f (n+1) ⟨i,a,b++[x]⟩:=by
 refine⟨h.fields,by have:=h.nums;simp only [j8,l6] at this ⊢;omega,h.field,fun y hy=>?_⟩
 rcases List.mem_append.1 hy with hy | hy
 ·exact h.num y hy
 ·rw [List.mem_singleton.1 hy];exact hx
theorem L2.more {f n f' n':Nat}{d:u1}(h:L2 f n d)(hf:f≤f')(hn:n≤n'):L2 f' n' d:=⟨by have:=h.fields;omega,by have:=h.nums;omega,h.field,h.num⟩
theorem b8y (F:Nat)(r:y2)(id:Int)(hr:b4e r 900000)(hF:20≤F): ∃d p,a0y F r id=some (d,⟨r.b_,p⟩)∧b0b r p 300∧L2 2 2 d:=by
 obtain⟨h1,h2,h3⟩:=hr
 have hm:10000≤maxLen:=by decide
 unfold a0y
 have e0:L2 0 0 ⟨id,[],[]⟩:=⟨by simp,by simp,by simp,by simp⟩
 obtain⟨a1,ha1,_,_⟩:=U2 F r 6 ⟨h1,by omega,by omega⟩
 rw [ha1,a8]
 dsimp only
 -- the first field
 have s1: ∃d p,(cond (decide ((0:Int)<a1)) (Option.bind (L6 F ⟨r.b_,r.p_+1⟩) fun r58=>(Option.bind (J5 32 ([]:List I3) ([(I3.mk ([98,111,100,121]:l3) r58.1)]:List I3)) fun x79=>(some (r58.2,(u1.mk id x79 ([]:List a1J)))))) (some ((⟨r.b_,r.p_+1⟩:y2),(u1.mk id ([]:List I3) ([]:List a1J)))):Option (y2×u1))=some (⟨r.b_,p⟩,d)∧b0b r p 101∧L2 1 0 d:=by
  cases decide ((0:Int)<a1)
  ·exact⟨_,_,rfl,⟨by omega,by omega⟩,e0.more (by omega) (by omega)⟩
  ·obtain⟨s,p,hs,q0,q1,ql⟩:=b36 F ⟨r.b_,r.p_+1⟩ ⟨h1,by simp only;omega,by simp only;omega⟩ hF
   simp only at q0 q1
   rw [j6,hs,a8,F5 (by simp)]
   exact⟨_,_,rfl,⟨by omega,by omega⟩,e0.putField _ ⟨by simp,by simp only;omega⟩⟩
 obtain⟨d1,p1,hs1,⟨q1,q2⟩,hd1⟩:=s1
 rw [hs1,a8]
 dsimp only
 obtain⟨a2,ha2,_,_⟩:=U2 F ⟨r.b_,p1⟩ 3 ⟨h1,by simp only;omega,by simp only;omega⟩
 rw [ha2,a8]
 dsimp only
 have s2: ∃d p,(cond (a2==(0:Int)) (Option.bind (L6 F ⟨r.b_,p1+1⟩) fun r144=>(Option.bind (J5 32 d1.Fields ([(I3.mk ([116,105,116,108,101]:l3) r144.1)]:List I3)) fun x165=>(some (r144.2,(u1.mk d1.Id x165 d1.Nums))))) (some ((⟨r.b_,p1+1⟩:y2),d1)):Option (y2×u1))=some (⟨r.b_,p⟩,d)∧b0b r p 202∧L2 2 0 d:=by
  cases a2==(0:Int)
  ·exact⟨_,_,rfl,⟨by omega,by omega⟩,hd1.more (by omega) (by omega)⟩
  ·obtain⟨s,p,hs,w0,w1,wl⟩:=b36 F ⟨r.b_,p1+1⟩ ⟨h1,by simp only;omega,by simp only;omega⟩ hF
   simp only at w0 w1
   have:=hd1.fields
   rw [j6,hs,a8,F5 (by simp only [l6];omega)]
   exact⟨_,_,rfl,⟨by omega,by omega⟩,hd1.putField _ ⟨by simp,by simp only;omega⟩⟩
 obtain⟨d2,p2,hs2,⟨q3,q4⟩,hd2⟩:=s2
 rw [hs2,a8]
 dsimp only
 obtain⟨a3,ha3,_,_⟩:=U2 F ⟨r.b_,p2⟩ 3 ⟨h1,by simp only;omega,by simp only;omega⟩
 rw [ha3,a8]
 dsimp only
 have s3: ∃d p,(cond (decide ((0:Int)<a3)) (Option.bind (y9 F ⟨r.b_,p2+1⟩ (4:Int)) fun r224=>(Option.bind (J5 24 d2.Nums ([(a1J.mk ([114,97,116,101]:l3) r224.1)]:List a1J)) fun x245=>(some (r224.2,(u1.mk d2.Id d2.Fields x245))))) (some ((⟨r.b_,p2+1⟩:y2),d2)):Option (y2×u1))=some (⟨r.b_,p⟩,d)∧b0b r p 204∧L2 2 1 d:=by
  cases decide ((0:Int)<a3)
  ·exact⟨_,_,rfl,⟨by omega,by omega⟩,hd2.more (by omega) (by omega)⟩
  ·obtain⟨x,hx,_,_⟩:=U2 F ⟨r.b_,p2+1⟩ 4 ⟨h1,by simp only;omega,by simp only;omega⟩
   have:=hd2.nums
   rw [j6,hx,a8,F5 (by simp only [l6];omega)]
   exact⟨_,p2+1+1,rfl,⟨by omega,by omega⟩,hd2.putNum _ (by simp)⟩
 obtain⟨d3,p3,hs3,⟨q5,q6⟩,hd3⟩:=s3
 rw [hs3,a8]
 dsimp only
 obtain⟨a4,ha4,_,_⟩:=U2 F ⟨r.b_,p3⟩ 3 ⟨h1,by simp only;omega,by simp only;omega⟩
 rw [ha4,a8]
 dsimp only
 cases a4==(0:Int)
 ·exact⟨_,_,rfl,⟨by omega,by omega⟩,hd3.more (by omega) (by omega)⟩
 ·obtain⟨x,hx,_,_⟩:=U2 F ⟨r.b_,p3+1⟩ 30 ⟨h1,by simp only;omega,by simp only;omega⟩
  have:=hd3.nums
  rw [j6,hx,a8,F5 (by simp only [l6];omega)]
  exact⟨_,p3+1+1,rfl,⟨by omega,by omega⟩,hd3.putNum _ (by simp)⟩
def a2X (k:Nat)(ds:List u1):Prop:=ds.length≤k∧∀d∈ds,L2 3 3 d
theorem a2X.fit {k:Nat}{ds:List u1}(h:a2X k ds)(hk:k≤100):X5 ds:=⟨by have:=h.1;omega,fun d hd=>(h.2 d hd).fit (by omega) (by omega)⟩
theorem b66 (F:Nat)(r:y2)(hr:b4e r 100000)(hF:20≤F): ∃ds p,Y8 F r=some (ds,⟨r.b_,p⟩)∧b0b r p 2000∧a2X 5 ds:=by
 obtain⟨h1,h2,h3⟩:=hr
 unfold Y8
 obtain⟨n,hn,n0,n1⟩:=U2 F r 6 ⟨h1,h2,by omega⟩
 have n1:=n1 (by decide)
 rw [hn,a8]
 dsimp only
 generalize hf:(fun (s44:(List u1)×Int×Int×y2)=>_:(List u1)×Int×Int×y2→Option (((List u1)×Int×Int×y2)⊕((List u1)×y2)))=f
 have key: ∀(k:Nat) (ds:List u1) (id p:Int) (F:Nat),k+1≤F→0≤p→p+301*k≤800000→a2X (5-k) ds→k≤5→∃ds' p',u0 f F (ds,id,(k:Int),⟨r.b_,p⟩)=some (ds',⟨r.b_,p'⟩)∧p≤p'∧p'≤p+301*k∧a2X 5 ds':=by
  intro k
  induction k with
  | zero=>
   intro ds id p F hF _ _ hd _
   obtain⟨F,rfl⟩: ∃G,F=G+1:=⟨F-1,by omega⟩
   rw [u0]
   subst hf
   exact⟨ds,p,rfl,by omega,by omega,hd⟩
  | succ k ih=>
   intro ds id p F' hF' p0 p1 hs hk
   obtain⟨F',rfl⟩: ∃G,F'=G+1:=⟨F'-1,by omega⟩
   obtain⟨a,ha,_,_⟩:=U2 F ⟨r.b_,p⟩ 3 ⟨h1,p0,by simp only;omega⟩
   obtain⟨d,q,hdq,⟨q0,q1⟩,hdd⟩:=b8y F ⟨r.b_,p+1⟩ (y8 (y8 (id+1)+a)) ⟨h1,by simp only;omega,by simp only;omega⟩ hF
   simp only at q0 q1
   have hs1:=hs.1
   have hstep:f (ds,id,((k+1:Nat):Int),⟨r.b_,p⟩)=some (.inl (ds++[d],y8 (y8 (id+1)+a),(k:Int),⟨r.b_,q⟩)):=by
    rw [←hf]
    dsimp only
    have c3:y8 (((k+1:Nat):Int)-1)=(k:Int):=by rw [B9 ⟨by omega,by omega⟩];omega
    rw [b8 (by omega),j6,ha,a8]
    dsimp only
    rw [hdq,a8,F5 (by simp only [l6];omega),a8,c3]
   rw [u0,hstep]
   simp only [a8,Sum.elim_inl]
   obtain⟨ws',p',hw,a1,a2,a3⟩:=ih (ds++[d]) (y8 (y8 (id+1)+a)) q F' (by omega) (by omega) (by omega) ⟨by simp only [j8,l6];omega,fun x hx=>by
    rcases List.mem_append.1 hx with h | h
    ·exact hs.2 x h
    ·rw [List.mem_singleton.1 h];exact hdd.more (by omega) (by omega)⟩ (by omega)
   exact⟨ws',p',hw,by omega,by omega,a3⟩
 obtain⟨k,rfl⟩:=Int.eq_ofNat_of_zero_le n0
 obtain⟨s',p',hw,a1,a2,a3⟩:=key k [] 0 (r.p_+1) F (by omega) (by omega) (by omega) ⟨by simp,by simp⟩ (by omega)
 rw [hw]
 exact⟨s',p',rfl,⟨by omega,by omega⟩,a3⟩
end Go.Fk
set_option linter.unusedVariables false
namespace Go.Fk
open Go
def a4B:List (List l3):=[[],[[116,104,101]],[[100,111,103],[116,104,101]]]
def a97:List (List M2):=[[],[⟨[[110,101,119],[121,111,114,107]],[110,121]⟩],[⟨[[98,105,103]],[108,97,114,103]⟩,⟨[[98,105,103],[114,101,100],[102,111,120]],[102,111,120]⟩,⟨[[110,101,119],[121,111,114,107]],[110,121]⟩]]
def a1q (c:o0):Prop:=c.Stops∈a4B∧c.Syns∈a97
theorem b2A:(a4B.all fun a=>a97.all fun b=>I4 ⟨a,b⟩)=true:=by decide +kernel
theorem a1q.good {c:o0}(h:a1q c):I4 c=true:=by
 have:=List.all_eq_true.1 (List.all_eq_true.1 b2A c.Stops h.1) c.Syns h.2
 exact this
theorem b63 (F:Nat)(r:y2)(hr:b4e r 900000): ∃c p,Y7 F r=some (c,⟨r.b_,p⟩)∧b0b r p 3∧a1q c:=by
 obtain⟨h1,h2,h3⟩:=hr
 unfold Y7
 obtain⟨a,ha,_,_⟩:=U2 F r 3 ⟨h1,h2,by omega⟩
 obtain⟨b,hb,_,_⟩:=U2 F ⟨r.b_,r.p_+1⟩ 4 ⟨h1,by simp only;omega,by simp only;omega⟩
 obtain⟨d,hd,_,_⟩:=U2 F ⟨r.b_,r.p_+1+1⟩ 4 ⟨h1,by simp only;omega,by simp only;omega⟩
 rw [ha,a8]
 have c1: ∃st,(cond (decide ((0:Int)<a)) (some (o0.mk ([([116,104,101]:l3)]:List l3) ([]:List M2))) (some (o0.mk ([]:List l3) ([]:List M2))))=some (o0.mk st [])∧st∈a4B:=by
  cases decide ((0:Int)<a)
  ·exact⟨_,rfl,by simp [a4B]⟩
  ·exact⟨_,rfl,by simp [a4B]⟩
 obtain⟨st,e1,m1⟩:=c1
 have e1':(cond (decide ((0:Int)<(a,y2.mk r.b_ (r.p_+1)).1)) (some (o0.mk ([([116,104,101]:l3)]:List l3) ([]:List M2))) (some (o0.mk ([]:List l3) ([]:List M2))))=some (o0.mk st []):=e1
 rw [e1',a8]
 dsimp only
 rw [hb,a8]
 dsimp only
 have c2: ∃st',(cond (b==(0:Int)) (some (o0.mk ([([100,111,103]:l3),([116,104,101]:l3)]:List l3) ([]:List M2))) (some (o0.mk st [])))=some (o0.mk st' [])∧st'∈a4B:=by
  cases b==(0:Int)
  ·exact⟨_,rfl,m1⟩
  ·exact⟨_,rfl,by simp [a4B]⟩
 obtain⟨st',e2,m2⟩:=c2
 rw [e2,a8,hd,a8]
 dsimp only
 cases d==(0:Int)
 ·cases d==(1:Int)
  ·exact⟨_,_,rfl,⟨by omega,by omega⟩,m2,by simp [a97]⟩
  ·exact⟨_,_,rfl,⟨by omega,by omega⟩,m2,by simp [a97]⟩
 ·exact⟨_,_,rfl,⟨by omega,by omega⟩,m2,by simp [a97]⟩
theorem b1k {B:Nat}{c:o0}(h1:c.Stops.length≤B∧∀s∈c.Stops,s.length≤B)(h2:c.Syns.length≤B∧∀r∈c.Syns,r.To.length≤B∧r.From.length≤B∧∀w∈r.From,w.length≤B):a2D B c:=by
 constructor
 ·exact h1
 ·exact⟨h2.1,fun r hr=>⟨(h2.2 r hr).2.1,(h2.2 r hr).1,(h2.2 r hr).2.2⟩⟩
theorem b5b: ∀a∈a4B,a.length≤90∧∀s∈a,s.length≤100:=by decide
theorem b6E: ∀a∈a97,a.length≤90∧∀r∈a,r.To.length≤100∧r.From.length≤100∧∀w∈r.From,w.length≤100:=by decide
theorem a1q.fit {c:o0}(h:a1q c):a2D 100 c:=by
 obtain⟨a1,a2⟩:=b5b _ h.1
 obtain⟨b1,b2⟩:=b6E _ h.2
 exact b1k ⟨by omega,a2⟩ ⟨by omega,b2⟩
theorem b1i {c:o0}{docs:List u1}(hd:X5 docs):(X4 c docs).Entries.length≤1000000000:=by
 have h1:=a9V hd
 have h2:=U0 (g:=fun n=>(Q7 c docs n).map (P6 c docs n)) (m:=100000) (a07 docs) fun n _=>by rw [List.length_map];exact a8l c hd n
 unfold X4
 show ((a07 docs).flatMap fun n=>(Q7 c docs n).map (P6 c docs n)).length≤_
 omega
theorem b80 (F:Nat)(r:y2)(hr:b4e r 1000)(hF:200000<F): ∃c docs p,a0A F r=some (c,X4 c docs,⟨r.b_,p⟩)∧b0b r p 2003∧a1q c∧X5 docs:=by
 obtain⟨h1,h2,h3⟩:=hr
 unfold a0A
 obtain⟨c,p,hc,⟨q1,q2⟩,hd⟩:=b63 F r ⟨h1,h2,by omega⟩
 obtain⟨docs,p',hdc,⟨q3,q4⟩,hdr⟩:=b66 F ⟨r.b_,p⟩ ⟨h1,by simp only;omega,by simp only;omega⟩ (by omega)
 simp only at q3 q4
 rw [hc,a8]
 dsimp only
 rw [hdc,a8]
 dsimp only
 rw [b19 F c docs hd.good (hdr.fit (by omega)) hF]
 exact⟨c,docs,p',rfl,⟨by omega,by omega⟩,hd,hdr.fit (by omega)⟩
theorem b4g (F:Nat)(r:y2)(hr:b4e r 1000)(hF:200000<F): ∃c s p,S3 F r=some (c,s,⟨r.b_,p⟩)∧b0b r p 2005∧a1q c∧X5 s.Docs∧s.Entries.length≤1000000001:=by
 obtain⟨h1,h2,h3⟩:=hr
 unfold S3
 obtain⟨c,docs,p,hs,⟨q1,q2⟩,hd,hf⟩:=b80 F r ⟨h1,h2,h3⟩ hF
 have hel:=b1i (c:=c) hf
 rw [hs,a8]
 dsimp only
 by_cases h0:(0:Int)<((X4 c docs).Entries.length:Int)
 ·obtain⟨i,hi,i0,i1⟩:=U2 F ⟨r.b_,p⟩ ((X4 c docs).Entries.length:Int) ⟨h1,by simp only;omega,by simp only;omega⟩
  obtain⟨x,hx,_,_⟩:=U2 F ⟨r.b_,p+1⟩ 16 ⟨h1,by simp only;omega,by simp only;omega⟩
  obtain⟨e,he⟩:=a7O i0 (i1 (by omega))
  rw [b8 h0,j6,hi,a8]
  dsimp only
  rw [hx,a8]
  dsimp only
  cases x==(0:Int)
  ·cases x==(1:Int)
   ·cases x==(2:Int)
    ·exact⟨_,_,_,rfl,⟨by omega,by omega⟩,hd,hf,by omega⟩
    ·have hne:1≤docs.length:=by
      rcases Nat.eq_zero_or_pos docs.length with h | h
      ·rw [List.eq_nil_of_length_eq_zero h] at h0
       simp [X4,a07] at h0
      ·exact h
     rw [i9,i9,j6,show (1:Int)=((1:Nat):Int) from rfl,show (X4 c docs).Docs=docs from rfl,a4T hne,a8]
     exact⟨_,_,_,rfl,⟨by omega,by omega⟩,hd,⟨by have:=hf.few;simp only [List.length_drop];omega,fun d hm=>hf.doc d (List.mem_of_mem_drop hm)⟩,by simp only;omega⟩
   ·rw [i9,j6,he,a8,F5 (by simp only [l6];omega),a8]
    exact⟨_,_,_,rfl,⟨by omega,by omega⟩,hd,hf,by simp only [j8,l6];omega⟩
  ·rw [j6,he,a8]
   exact⟨_,_,_,rfl,⟨by omega,by omega⟩,hd,hf,by simp only [List.length_set];omega⟩
 ·rw [c6 h0,i9]
  exact⟨_,_,_,rfl,⟨by omega,by omega⟩,hd,hf,by omega⟩
end Go.Fk
set_option linter.unusedVariables false
namespace Go.Fk
open Go
end Go.Fk
set_option linter.unusedVariables false
namespace Go.Fk
open Go
end Go.Fk
