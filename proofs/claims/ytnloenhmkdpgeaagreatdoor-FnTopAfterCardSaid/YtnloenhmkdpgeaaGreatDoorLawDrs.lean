import Derived.Test.YtnloenhmkdpgeaaGreatDoorLawBase
import Derived.Test.YtnloenhmkdpgeaaGreatDoorLawSegs
import Derived.Test.YtnloenhmkdpgeaaGreatDoorLawQs
/-
  The draws of documents go through, whatever the code. Of no program.
-/
namespace Go.Fk
open Go
def b2n (r:z7)(p:Int)(c:Nat):Prop:=r.p_≤p∧p≤r.p_+c
def b6l (r:z7)(m:Nat):Prop:=r.b_.length≤2000∧0≤r.p_∧r.p_≤m
structure W2 (f n:Nat)(d:A1):Prop where
 fields:d.Fields.length≤f
 nums:d.Nums.length≤n
 field: ∀f∈d.Fields,f.Name.length≤1000∧f.Text.length≤1000
 num: ∀a∈d.Nums,a.Name.length≤1000
theorem W2.fit {f n:Nat}{d:A1}(h:W2 f n d)(hf:f≤100)(hn:n≤100):a7X d:=⟨by have:=h.fields;omega,by have:=h.nums;omega,h.field,h.num⟩
theorem W2.putField {f n:Nat}{i:Int}{a:List Q6}{b:List a5j}(h:W2 f n ⟨i,a,b⟩)(x:Q6)(hx:x.Name.length≤1000∧x.Text.length≤1000):W2 (f+1) n ⟨i,a++[x],b⟩:=by
 refine⟨by have:=h.fields;simp only [o0,l8] at this ⊢;omega,h.nums,fun y hy=>?_,h.num⟩
 rcases List.mem_append.1 hy with hy | hy
 ·exact h.field y hy
 ·rw [List.mem_singleton.1 hy];exact hx
theorem W2.putNum {f n:Nat}{i:Int}{a:List Q6}{b:List a5j}(h:W2 f n ⟨i,a,b⟩)(x:a5j)(hx:x.Name.length≤1000):W2 f (n+1) ⟨i,a,b++[x]⟩:=by
 refine⟨h.fields,by have:=h.nums;simp only [o0,l8] at this ⊢;omega,h.field,fun y hy=>?_⟩
 rcases List.mem_append.1 hy with hy | hy
 ·exact h.num y hy
 ·rw [List.mem_singleton.1 hy];exact hx
theorem W2.more {f n f' n':Nat}{d:A1}(h:W2 f n d)(hf:f≤f')(hn:n≤n'):W2 f' n' d:=⟨by have:=h.fields;omega,by have:=h.nums;omega,h.field,h.num⟩
theorem c4G (F:Nat)(r:z7)(id:Int)(hr:b6l r 900000)(hF:20≤F): ∃d p,a3L F r id=some (d,⟨r.b_,p⟩)∧b2n r p 300∧W2 2 2 d:=by
 obtain⟨h1,h2,h3⟩:=hr
 have hm:10000≤maxLen:=by decide
 unfold a3L
 have e0:W2 0 0 ⟨id,[],[]⟩:=⟨by simp,by simp,by simp,by simp⟩
 obtain⟨a1,ha1,_,_⟩:=O3 F r 6 ⟨h1,by omega,by omega⟩
 rw [ha1,a8]
 dsimp only
 -- the first field
 have s1: ∃d p,(cond (decide ((0:Int)<a1)) (Option.bind (W5 F ⟨r.b_,r.p_+1⟩) fun r58=>(Option.bind (O2 32 ([]:List Q6) ([(Q6.mk ([98,111,100,121]:r4) r58.1)]:List Q6)) fun x79=>(some (r58.2,(A1.mk id x79 ([]:List a5j)))))) (some ((⟨r.b_,r.p_+1⟩:z7),(A1.mk id ([]:List Q6) ([]:List a5j)))):Option (z7×A1))=some (⟨r.b_,p⟩,d)∧b2n r p 101∧W2 1 0 d:=by
  cases decide ((0:Int)<a1)
  ·exact⟨_,_,rfl,⟨by omega,by omega⟩,e0.more (by omega) (by omega)⟩
  ·obtain⟨s,p,hs,q0,q1,ql⟩:=b9J F ⟨r.b_,r.p_+1⟩ ⟨h1,by simp only;omega,by simp only;omega⟩ hF
   simp only at q0 q1
   rw [j4,hs,a8,H4 (by simp)]
   exact⟨_,_,rfl,⟨by omega,by omega⟩,e0.putField _ ⟨by simp,by simp only;omega⟩⟩
 obtain⟨d1,p1,hs1,⟨q1,q2⟩,hd1⟩:=s1
 rw [hs1,a8]
 dsimp only
 obtain⟨a2,ha2,_,_⟩:=O3 F ⟨r.b_,p1⟩ 3 ⟨h1,by simp only;omega,by simp only;omega⟩
 rw [ha2,a8]
 dsimp only
 have s2: ∃d p,(cond (a2==(0:Int)) (Option.bind (W5 F ⟨r.b_,p1+1⟩) fun r144=>(Option.bind (O2 32 d1.Fields ([(Q6.mk ([116,105,116,108,101]:r4) r144.1)]:List Q6)) fun x165=>(some (r144.2,(A1.mk d1.Id x165 d1.Nums))))) (some ((⟨r.b_,p1+1⟩:z7),d1)):Option (z7×A1))=some (⟨r.b_,p⟩,d)∧b2n r p 202∧W2 2 0 d:=by
  cases a2==(0:Int)
  ·exact⟨_,_,rfl,⟨by omega,by omega⟩,hd1.more (by omega) (by omega)⟩
  ·obtain⟨s,p,hs,w0,w1,wl⟩:=b9J F ⟨r.b_,p1+1⟩ ⟨h1,by simp only;omega,by simp only;omega⟩ hF
   simp only at w0 w1
   have:=hd1.fields
   rw [j4,hs,a8,H4 (by simp only [l8];omega)]
   exact⟨_,_,rfl,⟨by omega,by omega⟩,hd1.putField _ ⟨by simp,by simp only;omega⟩⟩
 obtain⟨d2,p2,hs2,⟨q3,q4⟩,hd2⟩:=s2
 rw [hs2,a8]
 dsimp only
 obtain⟨a3,ha3,_,_⟩:=O3 F ⟨r.b_,p2⟩ 3 ⟨h1,by simp only;omega,by simp only;omega⟩
 rw [ha3,a8]
 dsimp only
 have s3: ∃d p,(cond (decide ((0:Int)<a3)) (Option.bind (z2 F ⟨r.b_,p2+1⟩ (4:Int)) fun r224=>(Option.bind (O2 24 d2.Nums ([(a5j.mk ([114,97,116,101]:r4) r224.1)]:List a5j)) fun x245=>(some (r224.2,(A1.mk d2.Id d2.Fields x245))))) (some ((⟨r.b_,p2+1⟩:z7),d2)):Option (z7×A1))=some (⟨r.b_,p⟩,d)∧b2n r p 204∧W2 2 1 d:=by
  cases decide ((0:Int)<a3)
  ·exact⟨_,_,rfl,⟨by omega,by omega⟩,hd2.more (by omega) (by omega)⟩
  ·obtain⟨x,hx,_,_⟩:=O3 F ⟨r.b_,p2+1⟩ 4 ⟨h1,by simp only;omega,by simp only;omega⟩
   have:=hd2.nums
   rw [j4,hx,a8,H4 (by simp only [l8];omega)]
   exact⟨_,p2+1+1,rfl,⟨by omega,by omega⟩,hd2.putNum _ (by simp)⟩
 obtain⟨d3,p3,hs3,⟨q5,q6⟩,hd3⟩:=s3
 rw [hs3,a8]
 dsimp only
 obtain⟨a4,ha4,_,_⟩:=O3 F ⟨r.b_,p3⟩ 3 ⟨h1,by simp only;omega,by simp only;omega⟩
 rw [ha4,a8]
 dsimp only
 cases a4==(0:Int)
 ·exact⟨_,_,rfl,⟨by omega,by omega⟩,hd3.more (by omega) (by omega)⟩
 ·obtain⟨x,hx,_,_⟩:=O3 F ⟨r.b_,p3+1⟩ 30 ⟨h1,by simp only;omega,by simp only;omega⟩
  have:=hd3.nums
  rw [j4,hx,a8,H4 (by simp only [l8];omega)]
  exact⟨_,p3+1+1,rfl,⟨by omega,by omega⟩,hd3.putNum _ (by simp)⟩
def a6N (k:Nat)(ds:List A1):Prop:=ds.length≤k∧∀d∈ds,W2 3 3 d
theorem a6N.fit {k:Nat}{ds:List A1}(h:a6N k ds)(hk:k≤100):X3 ds:=⟨by have:=h.1;omega,fun d hd=>(h.2 d hd).fit (by omega) (by omega)⟩
theorem c2W (F:Nat)(r:z7)(hr:b6l r 100000)(hF:20≤F): ∃ds p,a2T F r=some (ds,⟨r.b_,p⟩)∧b2n r p 2000∧a6N 5 ds:=by
 obtain⟨h1,h2,h3⟩:=hr
 unfold a2T
 obtain⟨n,hn,n0,n1⟩:=O3 F r 6 ⟨h1,h2,by omega⟩
 have n1:=n1 (by decide)
 rw [hn,a8]
 dsimp only
 generalize hf:(fun (s44:(List A1)×Int×Int×z7)=>_:(List A1)×Int×Int×z7→Option (((List A1)×Int×Int×z7)⊕((List A1)×z7)))=f
 have key: ∀(k:Nat) (ds:List A1) (id p:Int) (F:Nat),k+1≤F→0≤p→p+301*k≤800000→a6N (5-k) ds→k≤5→∃ds' p',y2 f F (ds,id,(k:Int),⟨r.b_,p⟩)=some (ds',⟨r.b_,p'⟩)∧p≤p'∧p'≤p+301*k∧a6N 5 ds':=by
  intro k
  induction k with
  | zero=>
   intro ds id p F hF _ _ hd _
   obtain⟨F,rfl⟩: ∃G,F=G+1:=⟨F-1,by omega⟩
   rw [y2]
   subst hf
   exact⟨ds,p,rfl,by omega,by omega,hd⟩
  | succ k ih=>
   intro ds id p F' hF' p0 p1 hs hk
   obtain⟨F',rfl⟩: ∃G,F'=G+1:=⟨F'-1,by omega⟩
   obtain⟨a,ha,_,_⟩:=O3 F ⟨r.b_,p⟩ 3 ⟨h1,p0,by simp only;omega⟩
   obtain⟨d,q,hdq,⟨q0,q1⟩,hdd⟩:=c4G F ⟨r.b_,p+1⟩ (z8 (z8 (id+1)+a)) ⟨h1,by simp only;omega,by simp only;omega⟩ hF
   simp only at q0 q1
   have hs1:=hs.1
   have hstep:f (ds,id,((k+1:Nat):Int),⟨r.b_,p⟩)=some (.inl (ds++[d],z8 (z8 (id+1)+a),(k:Int),⟨r.b_,q⟩)):=by
    rw [←hf]
    dsimp only
    have c3:z8 (((k+1:Nat):Int)-1)=(k:Int):=by rw [C5 ⟨by omega,by omega⟩];omega
    rw [b8 (by omega),j4,ha,a8]
    dsimp only
    rw [hdq,a8,H4 (by simp only [l8];omega),a8,c3]
   rw [y2,hstep]
   simp only [a8,Sum.elim_inl]
   obtain⟨ws',p',hw,a1,a2,a3⟩:=ih (ds++[d]) (z8 (z8 (id+1)+a)) q F' (by omega) (by omega) (by omega) ⟨by simp only [o0,l8];omega,fun x hx=>by
    rcases List.mem_append.1 hx with h | h
    ·exact hs.2 x h
    ·rw [List.mem_singleton.1 h];exact hdd.more (by omega) (by omega)⟩ (by omega)
   exact⟨ws',p',hw,by omega,by omega,a3⟩
 obtain⟨k,rfl⟩:=Int.eq_ofNat_of_zero_le n0
 obtain⟨s',p',hw,a1,a2,a3⟩:=key k [] 0 (r.p_+1) F (by omega) (by omega) (by omega) ⟨by simp,by simp⟩ (by omega)
 rw [hw]
 exact⟨s',p',rfl,⟨by omega,by omega⟩,a3⟩
end Go.Fk
set_option linter.unusedVariables false
namespace Go.Fk
open Go
def a8P:List (List r4):=[[],[[116,104,101]],[[100,111,103],[116,104,101]]]
def b5q:List (List Z0):=[[],[⟨[[110,101,119],[121,111,114,107]],[110,121]⟩],[⟨[[98,105,103]],[108,97,114,103]⟩,⟨[[98,105,103],[114,101,100],[102,111,120]],[102,111,120]⟩,⟨[[110,101,119],[121,111,114,107]],[110,121]⟩]]
def a4J (c:u6):Prop:=c.Stops∈a8P∧c.Syns∈b5q
theorem b79:(a8P.all fun a=>b5q.all fun b=>Y6 ⟨a,b⟩)=true:=by decide +kernel
theorem a4J.good {c:u6}(h:a4J c):Y6 c=true:=by
 have:=List.all_eq_true.1 (List.all_eq_true.1 b79 c.Stops h.1) c.Syns h.2
 exact this
theorem c2T (F:Nat)(r:z7)(hr:b6l r 900000): ∃c p,a2S F r=some (c,⟨r.b_,p⟩)∧b2n r p 3∧a4J c:=by
 obtain⟨h1,h2,h3⟩:=hr
 unfold a2S
 obtain⟨a,ha,_,_⟩:=O3 F r 3 ⟨h1,h2,by omega⟩
 obtain⟨b,hb,_,_⟩:=O3 F ⟨r.b_,r.p_+1⟩ 4 ⟨h1,by simp only;omega,by simp only;omega⟩
 obtain⟨d,hd,_,_⟩:=O3 F ⟨r.b_,r.p_+1+1⟩ 4 ⟨h1,by simp only;omega,by simp only;omega⟩
 rw [ha,a8]
 have c1: ∃st,(cond (decide ((0:Int)<a)) (some (u6.mk ([([116,104,101]:r4)]:List r4) ([]:List Z0))) (some (u6.mk ([]:List r4) ([]:List Z0))))=some (u6.mk st [])∧st∈a8P:=by
  cases decide ((0:Int)<a)
  ·exact⟨_,rfl,by simp [a8P]⟩
  ·exact⟨_,rfl,by simp [a8P]⟩
 obtain⟨st,e1,m1⟩:=c1
 have e1':(cond (decide ((0:Int)<(a,z7.mk r.b_ (r.p_+1)).1)) (some (u6.mk ([([116,104,101]:r4)]:List r4) ([]:List Z0))) (some (u6.mk ([]:List r4) ([]:List Z0))))=some (u6.mk st []):=e1
 rw [e1',a8]
 dsimp only
 rw [hb,a8]
 dsimp only
 have c2: ∃st',(cond (b==(0:Int)) (some (u6.mk ([([100,111,103]:r4),([116,104,101]:r4)]:List r4) ([]:List Z0))) (some (u6.mk st [])))=some (u6.mk st' [])∧st'∈a8P:=by
  cases b==(0:Int)
  ·exact⟨_,rfl,m1⟩
  ·exact⟨_,rfl,by simp [a8P]⟩
 obtain⟨st',e2,m2⟩:=c2
 rw [e2,a8,hd,a8]
 dsimp only
 cases d==(0:Int)
 ·cases d==(1:Int)
  ·exact⟨_,_,rfl,⟨by omega,by omega⟩,m2,by simp [b5q]⟩
  ·exact⟨_,_,rfl,⟨by omega,by omega⟩,m2,by simp [b5q]⟩
 ·exact⟨_,_,rfl,⟨by omega,by omega⟩,m2,by simp [b5q]⟩
theorem b6L {B:Nat}{c:u6}(h1:c.Stops.length≤B∧∀s∈c.Stops,s.length≤B)(h2:c.Syns.length≤B∧∀r∈c.Syns,r.To.length≤B∧r.From.length≤B∧∀w∈r.From,w.length≤B):a1K B c:=by
 constructor
 ·exact h1
 ·exact⟨h2.1,fun r hr=>⟨(h2.2 r hr).2.1,(h2.2 r hr).1,(h2.2 r hr).2.2⟩⟩
theorem c02: ∀a∈a8P,a.length≤90∧∀s∈a,s.length≤100:=by decide
theorem c2z: ∀a∈b5q,a.length≤90∧∀r∈a,r.To.length≤100∧r.From.length≤100∧∀w∈r.From,w.length≤100:=by decide
theorem a4J.fit {c:u6}(h:a4J c):a1K 100 c:=by
 obtain⟨a1,a2⟩:=c02 _ h.1
 obtain⟨b1,b2⟩:=c2z _ h.2
 exact b6L ⟨by omega,a2⟩ ⟨by omega,b2⟩
theorem b6F {c:u6}{docs:List A1}(hd:X3 docs):(a1F c docs).Entries.length≤1000000000:=by
 have h1:=b47 hd
 have h2:=Z4 (g:=fun n=>(M9 c docs n).map (O5 c docs n)) (m:=100000) (a0E docs) fun n _=>by rw [List.length_map];exact b3v c hd n
 unfold a1F
 show ((a0E docs).flatMap fun n=>(M9 c docs n).map (O5 c docs n)).length≤_
 omega
theorem c5g (F:Nat)(r:z7)(hr:b6l r 1000)(hF:200000<F): ∃c docs p,a3N F r=some (c,a1F c docs,⟨r.b_,p⟩)∧b2n r p 2003∧a4J c∧X3 docs:=by
 obtain⟨h1,h2,h3⟩:=hr
 unfold a3N
 obtain⟨c,p,hc,⟨q1,q2⟩,hd⟩:=c2T F r ⟨h1,h2,by omega⟩
 obtain⟨docs,p',hdc,⟨q3,q4⟩,hdr⟩:=c2W F ⟨r.b_,p⟩ ⟨h1,by simp only;omega,by simp only;omega⟩ (by omega)
 simp only at q3 q4
 rw [hc,a8]
 dsimp only
 rw [hdc,a8]
 dsimp only
 rw [b7R F c docs hd.good (hdr.fit (by omega)) hF]
 exact⟨c,docs,p',rfl,⟨by omega,by omega⟩,hd,hdr.fit (by omega)⟩
theorem a8Y (F:Nat)(r:z7)(hr:b6l r 1000)(hF:200000<F): ∃c s p,S5 F r=some (c,s,⟨r.b_,p⟩)∧b2n r p 2005∧a4J c∧X3 s.Docs∧s.Entries.length≤1000000001:=by
 obtain⟨h1,h2,h3⟩:=hr
 unfold S5
 obtain⟨c,docs,p,hs,⟨q1,q2⟩,hd,hf⟩:=c5g F r ⟨h1,h2,h3⟩ hF
 have hel:=b6F (c:=c) hf
 rw [hs,a8]
 dsimp only
 by_cases h0:(0:Int)<((a1F c docs).Entries.length:Int)
 ·obtain⟨i,hi,i0,i1⟩:=O3 F ⟨r.b_,p⟩ ((a1F c docs).Entries.length:Int) ⟨h1,by simp only;omega,by simp only;omega⟩
  obtain⟨x,hx,_,_⟩:=O3 F ⟨r.b_,p+1⟩ 16 ⟨h1,by simp only;omega,by simp only;omega⟩
  obtain⟨e,he⟩:=b21 i0 (i1 (by omega))
  rw [b8 h0,j4,hi,a8]
  dsimp only
  rw [hx,a8]
  dsimp only
  cases x==(0:Int)
  ·cases x==(1:Int)
   ·cases x==(2:Int)
    ·exact⟨_,_,_,rfl,⟨by omega,by omega⟩,hd,hf,by omega⟩
    ·have hne:1≤docs.length:=by
      rcases Nat.eq_zero_or_pos docs.length with h | h
      ·rw [List.eq_nil_of_length_eq_zero h] at h0
       simp [a1F,a0E] at h0
      ·exact h
     rw [i6,i6,j4,show (1:Int)=((1:Nat):Int) from rfl,show (a1F c docs).Docs=docs from rfl,a9e hne,a8]
     exact⟨_,_,_,rfl,⟨by omega,by omega⟩,hd,⟨by have:=hf.few;simp only [List.length_drop];omega,fun d hm=>hf.doc d (List.mem_of_mem_drop hm)⟩,by simp only;omega⟩
   ·rw [i6,j4,he,a8,H4 (by simp only [l8];omega),a8]
    exact⟨_,_,_,rfl,⟨by omega,by omega⟩,hd,hf,by simp only [o0,l8];omega⟩
  ·rw [j4,he,a8]
   exact⟨_,_,_,rfl,⟨by omega,by omega⟩,hd,hf,by simp only [List.length_set];omega⟩
 ·rw [c6 h0,i6]
  exact⟨_,_,_,rfl,⟨by omega,by omega⟩,hd,hf,by omega⟩
end Go.Fk
set_option linter.unusedVariables false
namespace Go.Fk
open Go
theorem c1X (F:Nat): ∃l:List r4,a0I F=some l∧l≠[]∧∀w∈l,D0 w=true:=by
 refine⟨_,rfl,by simp,?_⟩
 decide
def b20:List r4:=[[98,111,100,121],[98,111,100,121],[116,105,116,108,101]]
theorem b6K: ∀f∈b20,D0 f=true:=by decide
theorem b44 (F:Nat)(r:z7)(hr:b6l r 900000): ∃q p,a2U F r=some (q,⟨r.b_,p⟩)∧b2n r p 5∧a3D q:=by
 obtain⟨h1,h2,h3⟩:=hr
 unfold a2U
 obtain⟨f,hf,ef⟩:=a8q F r b20 ⟨h1,h2,by omega⟩ (by simp [b20])
 have hfw:=b6K f hf
 unfold b20 at ef
 rw [ef,a8]
 dsimp only
 obtain⟨x,hx,x0,x1⟩:=O3 F ⟨r.b_,r.p_+1⟩ 9 ⟨h1,by simp only;omega,by simp only;omega⟩
 rw [hx,a8]
 dsimp only
 obtain⟨kn,hkn,hne,hkw⟩:=c1X F
 cases x==(0:Int)
 ·rw [i6]
  cases x==(1:Int)
  ·rw [i6]
   cases x==(2:Int)
   ·rw [i6]
    cases x==(3:Int)
    ·rw [i6]
     cases x==(4:Int)
     ·rw [i6,hkn,a8]
      obtain⟨w,hw,ew⟩:=a8q F ⟨r.b_,r.p_+1+1⟩ kn ⟨h1,by simp only;omega,by simp only;omega⟩ hne
      rw [ew,a8]
      exact⟨_,_,rfl,⟨by simp only;omega,by simp only;omega⟩,.term hfw (hkw w hw)⟩
     ·rw [j4]
      obtain⟨a,ha,a0,a1⟩:=O3 F ⟨r.b_,r.p_+1+1⟩ 4 ⟨h1,by simp only;omega,by simp only;omega⟩
      rw [ha,a8]
      dsimp only
      obtain⟨b,hb,b0,b1⟩:=O3 F ⟨r.b_,r.p_+1+1+1⟩ 3 ⟨h1,by simp only;omega,by simp only;omega⟩
      have a1:=a1 (by omega)
      have b1:=b1 (by omega)
      rw [hb,a8,C5 ⟨by omega,by omega⟩]
      exact⟨_,_,rfl,⟨by simp only;omega,by simp only;omega⟩,.range (by decide) a0 (by omega) (by omega) (by omega)⟩
    ·rw [j4]
     obtain⟨w,hw,ew⟩:=a8q F ⟨r.b_,r.p_+1+1⟩ [[99,42],[63,111,63],[42,110],[42]] ⟨h1,by simp only;omega,by simp only;omega⟩ (by simp)
     rw [ew,a8]
     exact⟨_,_,rfl,⟨by simp only;omega,by simp only;omega⟩,.glob hfw ((by decide : ∀w∈([[99,42],[63,111,63],[42,110],[42]]:List r4),a8c w=true) w hw) ((by decide : ∀w∈([[99,42],[63,111,63],[42,110],[42]]:List r4),D0 w=false) w hw)⟩
   ·rw [j4]
    obtain⟨w,hw,ew⟩:=a8q F ⟨r.b_,r.p_+1+1⟩ [[99,111,116],[100,117,103],[114,110],[102,111,103]] ⟨h1,by simp only;omega,by simp only;omega⟩ (by simp)
    rw [ew,a8]
    dsimp only
    obtain⟨a,ha,a0,a1⟩:=O3 F ⟨r.b_,r.p_+1+1+1⟩ 2 ⟨h1,by simp only;omega,by simp only;omega⟩
    have a1:=a1 (by omega)
    rw [ha,a8,C5 ⟨by omega,by omega⟩]
    exact⟨_,_,rfl,⟨by simp only;omega,by simp only;omega⟩,.near hfw ((by decide : ∀w∈([[99,111,116],[100,117,103],[114,110],[102,111,103]]:List r4),D0 w=true) w hw) (by omega) (by omega)⟩
  ·rw [j4,hkn,a8]
   obtain⟨w,hw,ew⟩:=a8q F ⟨r.b_,r.p_+1+1⟩ kn ⟨h1,by simp only;omega,by simp only;omega⟩ hne
   rw [ew,a8,a8]
   dsimp only
   obtain⟨v,hv,ev⟩:=a8q F ⟨r.b_,r.p_+1+1+1⟩ kn ⟨h1,by simp only;omega,by simp only;omega⟩ hne
   rw [ev,a8]
   dsimp only
   obtain⟨a,ha,a0,a1⟩:=O3 F ⟨r.b_,r.p_+1+1+1+1⟩ 3 ⟨h1,by simp only;omega,by simp only;omega⟩
   have a1:=a1 (by omega)
   rw [ha,a8]
   exact⟨_,_,rfl,⟨by simp only;omega,by simp only;omega⟩,.phrase hfw (by simp) (by simp) (fun z hz=>by
    simp only [List.mem_cons,List.not_mem_nil,or_false] at hz
    rcases hz with rfl | rfl
    ·exact hkw _ hw
    ·exact hkw _ hv) a0 (by omega)⟩
 ·exact⟨_,_,rfl,⟨by omega,by omega⟩,.all⟩
def Z2:Nat→Nat
 | 0=>5
 | d+1=>5+3*Z2 d
theorem a80 {d:Nat}(h:d≤3):Z2 d≤200:=by
 have:d=0∨d=1∨d=2∨d=3:=by omega
 rcases this with rfl | rfl | rfl | rfl<;>decide
theorem a6c: ∀(d:Nat) (F:Nat) (r:z7),d≤2→d+10<F→r.b_.length≤2000→0≤r.p_→r.p_+3*Z2 d≤100000→∃q p,F0 F r ((d+1:Nat):Int)=some (q,⟨r.b_,p⟩)∧b2n r p (Z2 d)∧I3 (d+1) q
 | d,F,r,hd,hF,h1,h2,h3=>by
  obtain⟨F,rfl⟩: ∃G,F=G+1:=⟨F-1,by omega⟩
  have hpos:5≤Z2 d:=by cases d<;>simp [Z2]
  rw [F0]
  dsimp only
  cases d with
  | zero=>
   obtain⟨q,p,hq,⟨q0,q1⟩,hl⟩:=b44 F r ⟨h1,h2,by omega⟩
   rw [b8 (by omega),j4,a8]
   dsimp only
   rw [j4,hq]
   exact⟨_,_,rfl,⟨q0,q1⟩,.leaf hl⟩
  | succ d=>
   have hdr:Z2 (d+1)=5+3*Z2 d:=rfl
   have hpd:5≤Z2 d:=by cases d<;>simp [Z2]
   obtain⟨x,hx,x0,x1⟩:=O3 F r 3 ⟨h1,h2,by omega⟩
   rw [c6 (by omega),i6,hx,a8,a8]
   dsimp only
   cases x==(0:Int)
   case true=>
    obtain⟨q,p,hq,⟨q0,q1⟩,hl⟩:=b44 F ⟨r.b_,r.p_+1⟩ ⟨h1,by simp only;omega,by simp only;omega⟩
    simp only at q0 q1
    rw [j4,hq]
    exact⟨_,_,rfl,⟨by omega,by omega⟩,.leaf hl⟩
   case false=>
    rw [i6]
    have w1:z8 (((d+1+1:Nat):Int)-1)=((d+1:Nat):Int):=by rw [a0y (by omega) (by omega)];rfl
    obtain⟨y,hy,y0,y1⟩:=O3 F ⟨r.b_,r.p_+1⟩ 6 ⟨h1,by simp only;omega,by simp only;omega⟩
    have sub: ∀p:Int,r.p_≤p→p≤r.p_+5+3*Z2 d→∃q p',F0 F ⟨r.b_,p⟩ (z8 (((d+1+1:Nat):Int)-1))=some (q,⟨r.b_,p'⟩)∧p≤p'∧p'≤p+Z2 d∧I3 (d+1) q:=fun p p0 p1=>by
     rw [w1]
     obtain⟨q,p',e,⟨e1,e2⟩,g⟩:=a6c d F ⟨r.b_,p⟩ (by omega) (by omega) h1 (by simp only;omega) (by simp only;omega)
     exact⟨q,p',e,e1,e2,g⟩
    rw [hy,a8]
    dsimp only
    cases y==(0:Int)
    ·rw [i6]
     cases y==(1:Int)
     ·rw [i6]
      have two: ∃qa qb p,(Option.bind (F0 F ⟨r.b_,r.p_+1+1⟩ (z8 (((d+1+1:Nat):Int)-1))) fun r239=>(Option.bind (F0 F r239.2 (z8 (((d+1+1:Nat):Int)-1))) fun r264=>(some (.inr ((q7.mk (7:Int) ([]:r4) ([]:List r4) (0:Int) (0:Int) ([r239.1,r264.1]:List q7)),r264.2)):Option ((z7×q7)⊕(q7×z7)))))=some (.inr (⟨7,[],[],0,0,[qa,qb]⟩,⟨r.b_,p⟩))∧r.p_≤p∧p≤r.p_+2+2*Z2 d∧I3 (d+1) qa∧I3 (d+1) qb:=by
       obtain⟨qa,pa,ea,a1,a2,ga⟩:=sub (r.p_+1+1) (by omega) (by omega)
       obtain⟨qb,pb,eb,b1,b2,gb⟩:=sub pa (by omega) (by omega)
       refine⟨qa,qb,pb,?_,by omega,by omega,ga,gb⟩
       rw [ea,a8]
       dsimp only
       rw [eb];rfl
      obtain⟨qa,qb,p,e2,p1,p2,ga,gb⟩:=two
      have good7:I3 (d+1+1) ⟨7,[],[],0,0,[qa,qb]⟩:=.and (by simp) (by simp) fun k hk=>by
       simp only [List.mem_cons,List.not_mem_nil,or_false] at hk
       rcases hk with rfl | rfl
       ·exact ga
       ·exact gb
      have orCase: ∃q p,(Option.bind (z2 F ⟨r.b_,r.p_+1+1⟩ (2:Int)) fun r307=>(Option.bind ((Option.bind (y2 (σ:=Int×z7×q7) (τ:=z7×q7) (fun (s346:Int×z7×q7)=>(cond (decide ((0:Int)<s346.1)) (Option.bind (F0 F s346.2.1 (z8 (((d+1+1:Nat):Int)-(1:Int)))) fun r385=>(Option.bind (O2 88 s346.2.2.Kids ([r385.1]:List q7)) fun x417=>(some (.inl ((z8 (s346.1-(1:Int))),r385.2,(q7.mk s346.2.2.Kind s346.2.2.Field s346.2.2.Words s346.2.2.From s346.2.2.To x417)))))) (some (.inr (s346.2.1,s346.2.2))))) F ((z8 ((2:Int)+r307.1)),r307.2,(q7.mk (8:Int) ([]:r4) ([]:List r4) (0:Int) (0:Int) ([]:List q7)))) fun r347=>(some (r347.1,r347.2))):Option (z7×q7)) fun o322=>(some (o322.2,o322.1))))=some (q,⟨r.b_,p⟩)∧r.p_≤p∧p≤r.p_+3+3*Z2 d∧I3 (d+1+1) q:=by
       obtain⟨z,hz,z0,z1⟩:=O3 F ⟨r.b_,r.p_+1+1⟩ 2 ⟨h1,by simp only;omega,by simp only;omega⟩
       have z1:=z1 (by omega)
       rw [hz,a8]
       dsimp only
       obtain⟨n,hn⟩: ∃n:Nat,z=(n:Int):=⟨z.toNat,by omega⟩
       subst hn
       rw [C5 (n:=(2:Int)+(n:Int)) ⟨by omega,by omega⟩]
       obtain⟨t,ht,ks,p,rfl,k1,k2,k3,k4⟩:=I7 (σ:=Int×z7×q7) (τ:=z7×q7) (f:=(fun (s346:Int×z7×q7)=>(cond (decide ((0:Int)<s346.1)) (Option.bind (F0 F s346.2.1 (z8 (((d+1+1:Nat):Int)-(1:Int)))) fun r385=>(Option.bind (O2 88 s346.2.2.Kids ([r385.1]:List q7)) fun x417=>(some (.inl ((z8 (s346.1-(1:Int))),r385.2,(q7.mk s346.2.2.Kind s346.2.2.Field s346.2.2.Words s346.2.2.From s346.2.2.To x417)))))) (some (.inr (s346.2.1,s346.2.2))))))
        (Post:=fun t=>∃(ks:List q7) (p:Int),t=(⟨r.b_,p⟩,⟨8,[],[],0,0,ks⟩)∧ks.length=n+2∧r.p_≤p∧p≤r.p_+3+3*Z2 d∧∀k∈ks,I3 (d+1) k)
        (fun i st=>∃(ks:List q7) (p:Int),st=(((n+2:Nat):Int)-(i:Int),⟨r.b_,p⟩,⟨8,[],[],0,0,ks⟩)∧ks.length=i∧r.p_+3≤p∧p≤r.p_+3+(i:Int)*(Z2 d:Int)∧∀k∈ks,I3 (d+1) k) (n+2)
        (fun i st hi hI=>by
         obtain⟨ks,p,rfl,k1,k2,k3,k4⟩:=hI
         left
         have hid:(i:Int)*(Z2 d:Int)≤2*(Z2 d:Int):=Int.mul_le_mul_of_nonneg_right (by omega) (by omega)
         obtain⟨q,p',e,e1,e2,g⟩:=sub p (by omega) (by omega)
         dsimp only
         rw [b8 (by omega),j4,e,a8]
         dsimp only
         rw [H4 (by simp only [l8];omega),a8]
         refine⟨_,rfl,ks++[q],p',?_,by simp [k1],by omega,?_,fun k hk=>?_⟩
         ·rw [C5 ⟨by omega,by omega⟩]
          congr 1
          omega
         ·rw [show ((i+1:Nat):Int)*(Z2 d:Int)=(i:Int)*(Z2 d:Int)+Z2 d by rw [Int.natCast_add,Int.add_mul];simp]
          omega
         ·rcases List.mem_append.1 hk with hk | hk
          ·exact k4 k hk
          ·rw [List.mem_singleton] at hk;subst hk;exact g)
        (fun st hI=>by
         obtain⟨ks,p,rfl,k1,k2,k3,k4⟩:=hI
         dsimp only
         rw [c6 (by omega),i6]
         have hid:((n+2:Nat):Int)*(Z2 d:Int)≤3*(Z2 d:Int):=Int.mul_le_mul_of_nonneg_right (by omega) (by omega)
         exact⟨_,rfl,ks,p,rfl,k1,by omega,by omega,k4⟩) (n+2) 0 ((2:Int)+(n:Int),⟨r.b_,r.p_+1+1+1⟩,⟨8,[],[],0,0,[]⟩) F (by omega) (by omega)
        ⟨[],r.p_+1+1+1,by congr 1;omega,rfl,by omega,by omega,fun k hk=>by cases hk⟩
       rw [ht,a8,a8]
       exact⟨_,_,rfl,k2,k3,.or (by omega) (by omega) k4⟩
      obtain⟨qo,po,eo,o1,o2,go⟩:=orCase
      cases y==(2:Int)
      ·rw [i6,a8]
       cases y==(3:Int)
       ·rw [i6,a8]
        dsimp only [Sum.elim_inl]
        rw [eo]
        exact⟨_,_,rfl,⟨o1,by omega⟩,go⟩
       ·rw [j4,e2,a8]
        exact⟨_,_,rfl,⟨p1,by omega⟩,good7⟩
      ·rw [j4,a8,j4,e2,a8]
       exact⟨_,_,rfl,⟨p1,by omega⟩,good7⟩
     ·rw [j4]
      obtain⟨z,hz,z0,z1⟩:=O3 F ⟨r.b_,r.p_+1+1⟩ 4 ⟨h1,by simp only;omega,by simp only;omega⟩
      have z1:=z1 (by omega)
      obtain⟨qa,pa,ea,a1,a2,ga⟩:=sub (r.p_+1+1+1) (by omega) (by omega)
      rw [hz,a8]
      dsimp only
      rw [ea,a8,C5 (n:=(2:Int)+z) ⟨by omega,by omega⟩,a8]
      exact⟨_,_,rfl,⟨by omega,by omega⟩,.times (by omega) (by omega) ga⟩
    ·rw [j4]
     obtain⟨qa,pa,ea,a1,a2,ga⟩:=sub (r.p_+1+1) (by omega) (by omega)
     obtain⟨qb,pb,eb,b1,b2,gb⟩:=sub pa (by omega) (by omega)
     rw [ea,a8]
     dsimp only
     rw [eb,a8,a8]
     exact⟨_,_,rfl,⟨by omega,by omega⟩,.less ga gb⟩
end Go.Fk
set_option linter.unusedVariables false
namespace Go.Fk
open Go
end Go.Fk
