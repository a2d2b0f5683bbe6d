import Derived.Test.YtepcfgnicnibnaaGreatDoorLawBase
import Derived.Test.YtepcfgnicnibnaaGreatDoorLawSegs
import Derived.Test.YtepcfgnicnibnaaGreatDoorLawQs
/-
  The draws of documents go through, whatever the code. Of no program.
-/
namespace Go.Fk
open Go
def b0k (r:z2)(p:Int)(c:Nat):Prop:=r.p_≤p∧p≤r.p_+c
def b5i (r:z2)(m:Nat):Prop:=r.b_.length≤2000∧0≤r.p_∧r.p_≤m
structure R8 (f n:Nat)(d:y5):Prop where
 fields:d.Fields.length≤f
 nums:d.Nums.length≤n
 field: ∀f∈d.Fields,f.Name.length≤1000∧f.Text.length≤1000
 num: ∀a∈d.Nums,a.Name.length≤1000
theorem R8.fit {f n:Nat}{d:y5}(h:R8 f n d)(hf:f≤100)(hn:n≤100):a7o d:=⟨by have:=h.fields;omega,by have:=h.nums;omega,h.field,h.num⟩
theorem R8.putField {f n:Nat}{i:Int}{a:List O0}{b:List a4x}(h:R8 f n ⟨i,a,b⟩)(x:O0)(hx:x.Name.length≤1000∧x.Text.length≤1000):R8 (f+1) n ⟨i,a++[x],b⟩:=by
 refine⟨by have:=h.fields;simp only [n9,j9] at this ⊢;omega,h.nums,fun y hy=>?_,h.num⟩
 rcases List.mem_append.1 hy with hy | hy
 ·exact h.field y hy
 ·rw [List.mem_singleton.1 hy];exact hx
theorem R8.putNum {f n:Nat}{i:Int}{a:List O0}{b:List a4x}(h:R8 f n ⟨i,a,b⟩)(x:a4x)(hx:x.Name.length≤1000):R8 f (n+1) ⟨i,a,b++[x]⟩:=by
 refine⟨h.fields,by have:=h.nums;simp only [n9,j9] at this ⊢;omega,h.field,fun y hy=>?_⟩
 rcases List.mem_append.1 hy with hy | hy
 ·exact h.num y hy
 ·rw [List.mem_singleton.1 hy];exact hx
theorem R8.more {f n f' n':Nat}{d:y5}(h:R8 f n d)(hf:f≤f')(hn:n≤n'):R8 f' n' d:=⟨by have:=h.fields;omega,by have:=h.nums;omega,h.field,h.num⟩
theorem c1J (F:Nat)(r:z2)(id:Int)(hr:b5i r 900000)(hF:20≤F): ∃d p,a2Q F r id=some (d,⟨r.b_,p⟩)∧b0k r p 300∧R8 2 2 d:=by
 obtain⟨h1,h2,h3⟩:=hr
 have hm:10000≤maxLen:=by decide
 unfold a2Q
 have e0:R8 0 0 ⟨id,[],[]⟩:=⟨by simp,by simp,by simp,by simp⟩
 obtain⟨a1,ha1,_,_⟩:=H7 F r 6 ⟨h1,by omega,by omega⟩
 rw [ha1,a8]
 dsimp only
 -- the first field
 have s1: ∃d p,(cond (decide ((0:Int)<a1)) (Option.bind (T5 F ⟨r.b_,r.p_+1⟩) fun r58=>(Option.bind (J5 32 ([]:List O0) ([(O0.mk ([98,111,100,121]:q9) r58.1)]:List O0)) fun x79=>(some (r58.2,(y5.mk id x79 ([]:List a4x)))))) (some ((⟨r.b_,r.p_+1⟩:z2),(y5.mk id ([]:List O0) ([]:List a4x)))):Option (z2×y5))=some (⟨r.b_,p⟩,d)∧b0k r p 101∧R8 1 0 d:=by
  cases decide ((0:Int)<a1)
  ·exact⟨_,_,rfl,⟨by omega,by omega⟩,e0.more (by omega) (by omega)⟩
  ·obtain⟨s,p,hs,q0,q1,ql⟩:=b55 F ⟨r.b_,r.p_+1⟩ ⟨h1,by simp only;omega,by simp only;omega⟩ hF
   simp only at q0 q1
   rw [i9,hs,a8,F1 (by simp)]
   exact⟨_,_,rfl,⟨by omega,by omega⟩,e0.putField _ ⟨by simp,by simp only;omega⟩⟩
 obtain⟨d1,p1,hs1,⟨q1,q2⟩,hd1⟩:=s1
 rw [hs1,a8]
 dsimp only
 obtain⟨a2,ha2,_,_⟩:=H7 F ⟨r.b_,p1⟩ 3 ⟨h1,by simp only;omega,by simp only;omega⟩
 rw [ha2,a8]
 dsimp only
 have s2: ∃d p,(cond (a2==(0:Int)) (Option.bind (T5 F ⟨r.b_,p1+1⟩) fun r144=>(Option.bind (J5 32 d1.Fields ([(O0.mk ([116,105,116,108,101]:q9) r144.1)]:List O0)) fun x165=>(some (r144.2,(y5.mk d1.Id x165 d1.Nums))))) (some ((⟨r.b_,p1+1⟩:z2),d1)):Option (z2×y5))=some (⟨r.b_,p⟩,d)∧b0k r p 202∧R8 2 0 d:=by
  cases a2==(0:Int)
  ·exact⟨_,_,rfl,⟨by omega,by omega⟩,hd1.more (by omega) (by omega)⟩
  ·obtain⟨s,p,hs,w0,w1,wl⟩:=b55 F ⟨r.b_,p1+1⟩ ⟨h1,by simp only;omega,by simp only;omega⟩ hF
   simp only at w0 w1
   have:=hd1.fields
   rw [i9,hs,a8,F1 (by simp only [j9];omega)]
   exact⟨_,_,rfl,⟨by omega,by omega⟩,hd1.putField _ ⟨by simp,by simp only;omega⟩⟩
 obtain⟨d2,p2,hs2,⟨q3,q4⟩,hd2⟩:=s2
 rw [hs2,a8]
 dsimp only
 obtain⟨a3,ha3,_,_⟩:=H7 F ⟨r.b_,p2⟩ 3 ⟨h1,by simp only;omega,by simp only;omega⟩
 rw [ha3,a8]
 dsimp only
 have s3: ∃d p,(cond (decide ((0:Int)<a3)) (Option.bind (y6 F ⟨r.b_,p2+1⟩ (4:Int)) fun r224=>(Option.bind (J5 24 d2.Nums ([(a4x.mk ([114,97,116,101]:q9) r224.1)]:List a4x)) fun x245=>(some (r224.2,(y5.mk d2.Id d2.Fields x245))))) (some ((⟨r.b_,p2+1⟩:z2),d2)):Option (z2×y5))=some (⟨r.b_,p⟩,d)∧b0k r p 204∧R8 2 1 d:=by
  cases decide ((0:Int)<a3)
  ·exact⟨_,_,rfl,⟨by omega,by omega⟩,hd2.more (by omega) (by omega)⟩
  ·obtain⟨x,hx,_,_⟩:=H7 F ⟨r.b_,p2+1⟩ 4 ⟨h1,by simp only;omega,by simp only;omega⟩
   have:=hd2.nums
   rw [i9,hx,a8,F1 (by simp only [j9];omega)]
   exact⟨_,p2+1+1,rfl,⟨by omega,by omega⟩,hd2.putNum _ (by simp)⟩
 obtain⟨d3,p3,hs3,⟨q5,q6⟩,hd3⟩:=s3
 rw [hs3,a8]
 dsimp only
 obtain⟨a4,ha4,_,_⟩:=H7 F ⟨r.b_,p3⟩ 3 ⟨h1,by simp only;omega,by simp only;omega⟩
 rw [ha4,a8]
 dsimp only
 cases a4==(0:Int)
 ·exact⟨_,_,rfl,⟨by omega,by omega⟩,hd3.more (by omega) (by omega)⟩
 ·obtain⟨x,hx,_,_⟩:=H7 F ⟨r.b_,p3+1⟩ 30 ⟨h1,by simp only;omega,by simp only;omega⟩
  have:=hd3.nums
  rw [i9,hx,a8,F1 (by simp only [j9];omega)]
  exact⟨_,p3+1+1,rfl,⟨by omega,by omega⟩,hd3.putNum _ (by simp)⟩
def a30 (k:Nat)(ds:List y5):Prop:=ds.length≤k∧∀d∈ds,R8 3 3 d
theorem a30.fit {k:Nat}{ds:List y5}(h:a30 k ds)(hk:k≤100):Q2 ds:=⟨by have:=h.1;omega,fun d hd=>(h.2 d hd).fit (by omega) (by omega)⟩
theorem b9a (F:Nat)(r:z2)(hr:b5i r 100000)(hF:20≤F): ∃ds p,a2b F r=some (ds,⟨r.b_,p⟩)∧b0k r p 2000∧a30 5 ds:=by
 obtain⟨h1,h2,h3⟩:=hr
 unfold a2b
 obtain⟨n,hn,n0,n1⟩:=H7 F r 6 ⟨h1,h2,by omega⟩
 have n1:=n1 (by decide)
 rw [hn,a8]
 dsimp only
 generalize hf:(fun (s44:(List y5)×Int×Int×z2)=>_:(List y5)×Int×Int×z2→Option (((List y5)×Int×Int×z2)⊕((List y5)×z2)))=f
 have key: ∀(k:Nat) (ds:List y5) (id p:Int) (F:Nat),k+1≤F→0≤p→p+301*k≤800000→a30 (5-k) ds→k≤5→∃ds' p',v8 f F (ds,id,(k:Int),⟨r.b_,p⟩)=some (ds',⟨r.b_,p'⟩)∧p≤p'∧p'≤p+301*k∧a30 5 ds':=by
  intro k
  induction k with
  | zero=>
   intro ds id p F hF _ _ hd _
   obtain⟨F,rfl⟩: ∃G,F=G+1:=⟨F-1,by omega⟩
   rw [v8]
   subst hf
   exact⟨ds,p,rfl,by omega,by omega,hd⟩
  | succ k ih=>
   intro ds id p F' hF' p0 p1 hs hk
   obtain⟨F',rfl⟩: ∃G,F'=G+1:=⟨F'-1,by omega⟩
   obtain⟨a,ha,_,_⟩:=H7 F ⟨r.b_,p⟩ 3 ⟨h1,p0,by simp only;omega⟩
   obtain⟨d,q,hdq,⟨q0,q1⟩,hdd⟩:=c1J F ⟨r.b_,p+1⟩ (A1 (A1 (id+1)+a)) ⟨h1,by simp only;omega,by simp only;omega⟩ hF
   simp only at q0 q1
   have hs1:=hs.1
   have hstep:f (ds,id,((k+1:Nat):Int),⟨r.b_,p⟩)=some (.inl (ds++[d],A1 (A1 (id+1)+a),(k:Int),⟨r.b_,q⟩)):=by
    rw [←hf]
    dsimp only
    have c3:A1 (((k+1:Nat):Int)-1)=(k:Int):=by rw [B9 ⟨by omega,by omega⟩];omega
    rw [b8 (by omega),i9,ha,a8]
    dsimp only
    rw [hdq,a8,F1 (by simp only [j9];omega),a8,c3]
   rw [v8,hstep]
   simp only [a8,Sum.elim_inl]
   obtain⟨ws',p',hw,a1,a2,a3⟩:=ih (ds++[d]) (A1 (A1 (id+1)+a)) q F' (by omega) (by omega) (by omega) ⟨by simp only [n9,j9];omega,fun x hx=>by
    rcases List.mem_append.1 hx with h | h
    ·exact hs.2 x h
    ·rw [List.mem_singleton.1 h];exact hdd.more (by omega) (by omega)⟩ (by omega)
   exact⟨ws',p',hw,by omega,by omega,a3⟩
 obtain⟨k,rfl⟩:=Int.eq_ofNat_of_zero_le n0
 obtain⟨s',p',hw,a1,a2,a3⟩:=key k [] 0 (r.p_+1) F (by omega) (by omega) (by omega) ⟨by simp,by simp⟩ (by omega)
 rw [hw]
 exact⟨s',p',rfl,⟨by omega,by omega⟩,a3⟩
end Go.Fk
set_option linter.unusedVariables false
namespace Go.Fk
open Go
def a8g:List (List q9):=[[],[[116,104,101]],[[100,111,103],[116,104,101]]]
def b49:List (List V7):=[[],[⟨[[110,101,119],[121,111,114,107]],[110,121]⟩],[⟨[[98,105,103]],[108,97,114,103]⟩,⟨[[98,105,103],[114,101,100],[102,111,120]],[102,111,120]⟩,⟨[[110,101,119],[121,111,114,107]],[110,121]⟩]]
def a3Z (c:u5):Prop:=c.Stops∈a8g∧c.Syns∈b49
theorem b74:(a8g.all fun a=>b49.all fun b=>X2 ⟨a,b⟩)=true:=by decide +kernel
theorem a3Z.good {c:u5}(h:a3Z c):X2 c=true:=by
 have:=List.all_eq_true.1 (List.all_eq_true.1 b74 c.Stops h.1) c.Syns h.2
 exact this
theorem c29 (F:Nat)(r:z2)(hr:b5i r 900000): ∃c p,a2a F r=some (c,⟨r.b_,p⟩)∧b0k r p 3∧a3Z c:=by
 obtain⟨h1,h2,h3⟩:=hr
 unfold a2a
 obtain⟨a,ha,_,_⟩:=H7 F r 3 ⟨h1,h2,by omega⟩
 obtain⟨b,hb,_,_⟩:=H7 F ⟨r.b_,r.p_+1⟩ 4 ⟨h1,by simp only;omega,by simp only;omega⟩
 obtain⟨d,hd,_,_⟩:=H7 F ⟨r.b_,r.p_+1+1⟩ 4 ⟨h1,by simp only;omega,by simp only;omega⟩
 rw [ha,a8]
 have c1: ∃st,(cond (decide ((0:Int)<a)) (some (u5.mk ([([116,104,101]:q9)]:List q9) ([]:List V7))) (some (u5.mk ([]:List q9) ([]:List V7))))=some (u5.mk st [])∧st∈a8g:=by
  cases decide ((0:Int)<a)
  ·exact⟨_,rfl,by simp [a8g]⟩
  ·exact⟨_,rfl,by simp [a8g]⟩
 obtain⟨st,e1,m1⟩:=c1
 have e1':(cond (decide ((0:Int)<(a,z2.mk r.b_ (r.p_+1)).1)) (some (u5.mk ([([116,104,101]:q9)]:List q9) ([]:List V7))) (some (u5.mk ([]:List q9) ([]:List V7))))=some (u5.mk st []):=e1
 rw [e1',a8]
 dsimp only
 rw [hb,a8]
 dsimp only
 have c2: ∃st',(cond (b==(0:Int)) (some (u5.mk ([([100,111,103]:q9),([116,104,101]:q9)]:List q9) ([]:List V7))) (some (u5.mk st [])))=some (u5.mk st' [])∧st'∈a8g:=by
  cases b==(0:Int)
  ·exact⟨_,rfl,m1⟩
  ·exact⟨_,rfl,by simp [a8g]⟩
 obtain⟨st',e2,m2⟩:=c2
 rw [e2,a8,hd,a8]
 dsimp only
 cases d==(0:Int)
 ·cases d==(1:Int)
  ·exact⟨_,_,rfl,⟨by omega,by omega⟩,m2,by simp [b49]⟩
  ·exact⟨_,_,rfl,⟨by omega,by omega⟩,m2,by simp [b49]⟩
 ·exact⟨_,_,rfl,⟨by omega,by omega⟩,m2,by simp [b49]⟩
theorem b6C {B:Nat}{c:u5}(h1:c.Stops.length≤B∧∀s∈c.Stops,s.length≤B)(h2:c.Syns.length≤B∧∀r∈c.Syns,r.To.length≤B∧r.From.length≤B∧∀w∈r.From,w.length≤B):a0B B c:=by
 constructor
 ·exact h1
 ·exact⟨h2.1,fun r hr=>⟨(h2.2 r hr).2.1,(h2.2 r hr).1,(h2.2 r hr).2.2⟩⟩
theorem c0Y: ∀a∈a8g,a.length≤90∧∀s∈a,s.length≤100:=by decide
theorem c2N: ∀a∈b49,a.length≤90∧∀r∈a,r.To.length≤100∧r.From.length≤100∧∀w∈r.From,w.length≤100:=by decide
theorem a3Z.fit {c:u5}(h:a3Z c):a0B 100 c:=by
 obtain⟨a1,a2⟩:=c0Y _ h.1
 obtain⟨b1,b2⟩:=c2N _ h.2
 exact b6C ⟨by omega,a2⟩ ⟨by omega,b2⟩
theorem b6w {c:u5}{docs:List y5}(hd:Q2 docs):(a1L c docs).Entries.length≤1000000000:=by
 have h1:=b4R hd
 have h2:=W3 (g:=fun n=>(L5 c docs n).map (M4 c docs n)) (m:=100000) (a0b docs) fun n _=>by rw [List.length_map];exact b2W c hd n
 unfold a1L
 show ((a0b docs).flatMap fun n=>(L5 c docs n).map (M4 c docs n)).length≤_
 omega
theorem c5x (F:Nat)(r:z2)(hr:b5i r 1000)(hF:200000<F): ∃c docs p,a2S F r=some (c,a1L c docs,⟨r.b_,p⟩)∧b0k r p 2003∧a3Z c∧Q2 docs:=by
 obtain⟨h1,h2,h3⟩:=hr
 unfold a2S
 obtain⟨c,p,hc,⟨q1,q2⟩,hd⟩:=c29 F r ⟨h1,h2,by omega⟩
 obtain⟨docs,p',hdc,⟨q3,q4⟩,hdr⟩:=b9a F ⟨r.b_,p⟩ ⟨h1,by simp only;omega,by simp only;omega⟩ (by omega)
 simp only at q3 q4
 rw [hc,a8]
 dsimp only
 rw [hdc,a8]
 dsimp only
 rw [b7E F c docs hd.good (hdr.fit (by omega)) hF]
 exact⟨c,docs,p',rfl,⟨by omega,by omega⟩,hd,hdr.fit (by omega)⟩
theorem b0n (F:Nat)(r:z2)(hr:b5i r 1000)(hF:200000<F): ∃c s p,S4 F r=some (c,s,⟨r.b_,p⟩)∧b0k r p 2005∧a3Z c∧Q2 s.Docs∧s.Entries.length≤1000000001:=by
 obtain⟨h1,h2,h3⟩:=hr
 unfold S4
 obtain⟨c,docs,p,hs,⟨q1,q2⟩,hd,hf⟩:=c5x F r ⟨h1,h2,h3⟩ hF
 have hel:=b6w (c:=c) hf
 rw [hs,a8]
 dsimp only
 by_cases h0:(0:Int)<((a1L c docs).Entries.length:Int)
 ·obtain⟨i,hi,i0,i1⟩:=H7 F ⟨r.b_,p⟩ ((a1L c docs).Entries.length:Int) ⟨h1,by simp only;omega,by simp only;omega⟩
  obtain⟨x,hx,_,_⟩:=H7 F ⟨r.b_,p+1⟩ 16 ⟨h1,by simp only;omega,by simp only;omega⟩
  obtain⟨e,he⟩:=b2w i0 (i1 (by omega))
  rw [b8 h0,i9,hi,a8]
  dsimp only
  rw [hx,a8]
  dsimp only
  cases x==(0:Int)
  ·cases x==(1:Int)
   ·cases x==(2:Int)
    ·exact⟨_,_,_,rfl,⟨by omega,by omega⟩,hd,hf,by omega⟩
    ·have hne:1≤docs.length:=by
      rcases Nat.eq_zero_or_pos docs.length with h | h
      ·rw [List.eq_nil_of_length_eq_zero h] at h0
       simp [a1L,a0b] at h0
      ·exact h
     rw [i6,i6,i9,show (1:Int)=((1:Nat):Int) from rfl,show (a1L c docs).Docs=docs from rfl,a6C hne,a8]
     exact⟨_,_,_,rfl,⟨by omega,by omega⟩,hd,⟨by have:=hf.few;simp only [List.length_drop];omega,fun d hm=>hf.doc d (List.mem_of_mem_drop hm)⟩,by simp only;omega⟩
   ·rw [i6,i9,he,a8,F1 (by simp only [j9];omega),a8]
    exact⟨_,_,_,rfl,⟨by omega,by omega⟩,hd,hf,by simp only [n9,j9];omega⟩
  ·rw [i9,he,a8]
   exact⟨_,_,_,rfl,⟨by omega,by omega⟩,hd,hf,by simp only [List.length_set];omega⟩
 ·rw [c6 h0,i6]
  exact⟨_,_,_,rfl,⟨by omega,by omega⟩,hd,hf,by omega⟩
end Go.Fk
set_option linter.unusedVariables false
namespace Go.Fk
open Go
theorem c1Z (F:Nat): ∃l:List q9,a0i F=some l∧l≠[]∧∀w∈l,D0 w=true:=by
 refine⟨_,rfl,by simp,?_⟩
 decide
def b2v:List q9:=[[98,111,100,121],[98,111,100,121],[116,105,116,108,101]]
theorem b6B: ∀f∈b2v,D0 f=true:=by decide
theorem b4M (F:Nat)(r:z2)(hr:b5i r 900000): ∃q p,a2c F r=some (q,⟨r.b_,p⟩)∧b0k r p 5∧a4y q:=by
 obtain⟨h1,h2,h3⟩:=hr
 unfold a2c
 obtain⟨f,hf,ef⟩:=a9Q F r b2v ⟨h1,h2,by omega⟩ (by simp [b2v])
 have hfw:=b6B f hf
 unfold b2v at ef
 rw [ef,a8]
 dsimp only
 obtain⟨x,hx,x0,x1⟩:=H7 F ⟨r.b_,r.p_+1⟩ 9 ⟨h1,by simp only;omega,by simp only;omega⟩
 rw [hx,a8]
 dsimp only
 obtain⟨kn,hkn,hne,hkw⟩:=c1Z F
 cases x==(0:Int)
 ·rw [i6]
  cases x==(1:Int)
  ·rw [i6]
   cases x==(2:Int)
   ·rw [i6]
    cases x==(3:Int)
    ·rw [i6]
     cases x==(4:Int)
     ·rw [i6,hkn,a8]
      obtain⟨w,hw,ew⟩:=a9Q F ⟨r.b_,r.p_+1+1⟩ kn ⟨h1,by simp only;omega,by simp only;omega⟩ hne
      rw [ew,a8]
      exact⟨_,_,rfl,⟨by simp only;omega,by simp only;omega⟩,.term hfw (hkw w hw)⟩
     ·rw [i9]
      obtain⟨a,ha,a0,a1⟩:=H7 F ⟨r.b_,r.p_+1+1⟩ 4 ⟨h1,by simp only;omega,by simp only;omega⟩
      rw [ha,a8]
      dsimp only
      obtain⟨b,hb,b0,b1⟩:=H7 F ⟨r.b_,r.p_+1+1+1⟩ 3 ⟨h1,by simp only;omega,by simp only;omega⟩
      have a1:=a1 (by omega)
      have b1:=b1 (by omega)
      rw [hb,a8,B9 ⟨by omega,by omega⟩]
      exact⟨_,_,rfl,⟨by simp only;omega,by simp only;omega⟩,.range (by decide) a0 (by omega) (by omega) (by omega)⟩
    ·rw [i9]
     obtain⟨w,hw,ew⟩:=a9Q F ⟨r.b_,r.p_+1+1⟩ [[99,42],[63,111,63],[42,110],[42]] ⟨h1,by simp only;omega,by simp only;omega⟩ (by simp)
     rw [ew,a8]
     exact⟨_,_,rfl,⟨by simp only;omega,by simp only;omega⟩,.glob hfw ((by decide : ∀w∈([[99,42],[63,111,63],[42,110],[42]]:List q9),a7B w=true) w hw) ((by decide : ∀w∈([[99,42],[63,111,63],[42,110],[42]]:List q9),D0 w=false) w hw)⟩
   ·rw [i9]
    obtain⟨w,hw,ew⟩:=a9Q F ⟨r.b_,r.p_+1+1⟩ [[99,111,116],[100,117,103],[114,110],[102,111,103]] ⟨h1,by simp only;omega,by simp only;omega⟩ (by simp)
    rw [ew,a8]
    dsimp only
    obtain⟨a,ha,a0,a1⟩:=H7 F ⟨r.b_,r.p_+1+1+1⟩ 2 ⟨h1,by simp only;omega,by simp only;omega⟩
    have a1:=a1 (by omega)
    rw [ha,a8,B9 ⟨by omega,by omega⟩]
    exact⟨_,_,rfl,⟨by simp only;omega,by simp only;omega⟩,.near hfw ((by decide : ∀w∈([[99,111,116],[100,117,103],[114,110],[102,111,103]]:List q9),D0 w=true) w hw) (by omega) (by omega)⟩
  ·rw [i9,hkn,a8]
   obtain⟨w,hw,ew⟩:=a9Q F ⟨r.b_,r.p_+1+1⟩ kn ⟨h1,by simp only;omega,by simp only;omega⟩ hne
   rw [ew,a8,a8]
   dsimp only
   obtain⟨v,hv,ev⟩:=a9Q F ⟨r.b_,r.p_+1+1+1⟩ kn ⟨h1,by simp only;omega,by simp only;omega⟩ hne
   rw [ev,a8]
   dsimp only
   obtain⟨a,ha,a0,a1⟩:=H7 F ⟨r.b_,r.p_+1+1+1+1⟩ 3 ⟨h1,by simp only;omega,by simp only;omega⟩
   have a1:=a1 (by omega)
   rw [ha,a8]
   exact⟨_,_,rfl,⟨by simp only;omega,by simp only;omega⟩,.phrase hfw (by simp) (by simp) (fun z hz=>by
    simp only [List.mem_cons,List.not_mem_nil,or_false] at hz
    rcases hz with rfl | rfl
    ·exact hkw _ hw
    ·exact hkw _ hv) a0 (by omega)⟩
 ·exact⟨_,_,rfl,⟨by omega,by omega⟩,.all⟩
def W1:Nat→Nat
 | 0=>5
 | d+1=>5+3*W1 d
theorem a8k {d:Nat}(h:d≤3):W1 d≤200:=by
 have:d=0∨d=1∨d=2∨d=3:=by omega
 rcases this with rfl | rfl | rfl | rfl<;>decide
theorem a5A: ∀(d:Nat) (F:Nat) (r:z2),d≤2→d+10<F→r.b_.length≤2000→0≤r.p_→r.p_+3*W1 d≤100000→∃q p,E3 F r ((d+1:Nat):Int)=some (q,⟨r.b_,p⟩)∧b0k r p (W1 d)∧I8 (d+1) q
 | d,F,r,hd,hF,h1,h2,h3=>by
  obtain⟨F,rfl⟩: ∃G,F=G+1:=⟨F-1,by omega⟩
  have hpos:5≤W1 d:=by cases d<;>simp [W1]
  rw [E3]
  dsimp only
  cases d with
  | zero=>
   obtain⟨q,p,hq,⟨q0,q1⟩,hl⟩:=b4M F r ⟨h1,h2,by omega⟩
   rw [b8 (by omega),i9,a8]
   dsimp only
   rw [i9,hq]
   exact⟨_,_,rfl,⟨q0,q1⟩,.leaf hl⟩
  | succ d=>
   have hdr:W1 (d+1)=5+3*W1 d:=rfl
   have hpd:5≤W1 d:=by cases d<;>simp [W1]
   obtain⟨x,hx,x0,x1⟩:=H7 F r 3 ⟨h1,h2,by omega⟩
   rw [c6 (by omega),i6,hx,a8,a8]
   dsimp only
   cases x==(0:Int)
   case true=>
    obtain⟨q,p,hq,⟨q0,q1⟩,hl⟩:=b4M F ⟨r.b_,r.p_+1⟩ ⟨h1,by simp only;omega,by simp only;omega⟩
    simp only at q0 q1
    rw [i9,hq]
    exact⟨_,_,rfl,⟨by omega,by omega⟩,.leaf hl⟩
   case false=>
    rw [i6]
    have w1:A1 (((d+1+1:Nat):Int)-1)=((d+1:Nat):Int):=by rw [V5 (by omega) (by omega)];rfl
    obtain⟨y,hy,y0,y1⟩:=H7 F ⟨r.b_,r.p_+1⟩ 6 ⟨h1,by simp only;omega,by simp only;omega⟩
    have sub: ∀p:Int,r.p_≤p→p≤r.p_+5+3*W1 d→∃q p',E3 F ⟨r.b_,p⟩ (A1 (((d+1+1:Nat):Int)-1))=some (q,⟨r.b_,p'⟩)∧p≤p'∧p'≤p+W1 d∧I8 (d+1) q:=fun p p0 p1=>by
     rw [w1]
     obtain⟨q,p',e,⟨e1,e2⟩,g⟩:=a5A d F ⟨r.b_,p⟩ (by omega) (by omega) h1 (by simp only;omega) (by simp only;omega)
     exact⟨q,p',e,e1,e2,g⟩
    rw [hy,a8]
    dsimp only
    cases y==(0:Int)
    ·rw [i6]
     cases y==(1:Int)
     ·rw [i6]
      have two: ∃qa qb p,(Option.bind (E3 F ⟨r.b_,r.p_+1+1⟩ (A1 (((d+1+1:Nat):Int)-1))) fun r239=>(Option.bind (E3 F r239.2 (A1 (((d+1+1:Nat):Int)-1))) fun r264=>(some (.inr ((r5.mk (7:Int) ([]:q9) ([]:List q9) (0:Int) (0:Int) ([r239.1,r264.1]:List r5)),r264.2)):Option ((z2×r5)⊕(r5×z2)))))=some (.inr (⟨7,[],[],0,0,[qa,qb]⟩,⟨r.b_,p⟩))∧r.p_≤p∧p≤r.p_+2+2*W1 d∧I8 (d+1) qa∧I8 (d+1) qb:=by
       obtain⟨qa,pa,ea,a1,a2,ga⟩:=sub (r.p_+1+1) (by omega) (by omega)
       obtain⟨qb,pb,eb,b1,b2,gb⟩:=sub pa (by omega) (by omega)
       refine⟨qa,qb,pb,?_,by omega,by omega,ga,gb⟩
       rw [ea,a8]
       dsimp only
       rw [eb];rfl
      obtain⟨qa,qb,p,e2,p1,p2,ga,gb⟩:=two
      have good7:I8 (d+1+1) ⟨7,[],[],0,0,[qa,qb]⟩:=.and (by simp) (by simp) fun k hk=>by
       simp only [List.mem_cons,List.not_mem_nil,or_false] at hk
       rcases hk with rfl | rfl
       ·exact ga
       ·exact gb
      have orCase: ∃q p,(Option.bind (y6 F ⟨r.b_,r.p_+1+1⟩ (2:Int)) fun r307=>(Option.bind ((Option.bind (v8 (σ:=Int×z2×r5) (τ:=z2×r5) (fun (s346:Int×z2×r5)=>(cond (decide ((0:Int)<s346.1)) (Option.bind (E3 F s346.2.1 (A1 (((d+1+1:Nat):Int)-(1:Int)))) fun r385=>(Option.bind (J5 88 s346.2.2.Kids ([r385.1]:List r5)) fun x417=>(some (.inl ((A1 (s346.1-(1:Int))),r385.2,(r5.mk s346.2.2.Kind s346.2.2.Field s346.2.2.Words s346.2.2.From s346.2.2.To x417)))))) (some (.inr (s346.2.1,s346.2.2))))) F ((A1 ((2:Int)+r307.1)),r307.2,(r5.mk (8:Int) ([]:q9) ([]:List q9) (0:Int) (0:Int) ([]:List r5)))) fun r347=>(some (r347.1,r347.2))):Option (z2×r5)) fun o322=>(some (o322.2,o322.1))))=some (q,⟨r.b_,p⟩)∧r.p_≤p∧p≤r.p_+3+3*W1 d∧I8 (d+1+1) q:=by
       obtain⟨z,hz,z0,z1⟩:=H7 F ⟨r.b_,r.p_+1+1⟩ 2 ⟨h1,by simp only;omega,by simp only;omega⟩
       have z1:=z1 (by omega)
       rw [hz,a8]
       dsimp only
       obtain⟨n,hn⟩: ∃n:Nat,z=(n:Int):=⟨z.toNat,by omega⟩
       subst hn
       rw [B9 (n:=(2:Int)+(n:Int)) ⟨by omega,by omega⟩]
       obtain⟨t,ht,ks,p,rfl,k1,k2,k3,k4⟩:=H4 (σ:=Int×z2×r5) (τ:=z2×r5) (f:=(fun (s346:Int×z2×r5)=>(cond (decide ((0:Int)<s346.1)) (Option.bind (E3 F s346.2.1 (A1 (((d+1+1:Nat):Int)-(1:Int)))) fun r385=>(Option.bind (J5 88 s346.2.2.Kids ([r385.1]:List r5)) fun x417=>(some (.inl ((A1 (s346.1-(1:Int))),r385.2,(r5.mk s346.2.2.Kind s346.2.2.Field s346.2.2.Words s346.2.2.From s346.2.2.To x417)))))) (some (.inr (s346.2.1,s346.2.2))))))
        (Post:=fun t=>∃(ks:List r5) (p:Int),t=(⟨r.b_,p⟩,⟨8,[],[],0,0,ks⟩)∧ks.length=n+2∧r.p_≤p∧p≤r.p_+3+3*W1 d∧∀k∈ks,I8 (d+1) k)
        (fun i st=>∃(ks:List r5) (p:Int),st=(((n+2:Nat):Int)-(i:Int),⟨r.b_,p⟩,⟨8,[],[],0,0,ks⟩)∧ks.length=i∧r.p_+3≤p∧p≤r.p_+3+(i:Int)*(W1 d:Int)∧∀k∈ks,I8 (d+1) k) (n+2)
        (fun i st hi hI=>by
         obtain⟨ks,p,rfl,k1,k2,k3,k4⟩:=hI
         left
         have hid:(i:Int)*(W1 d:Int)≤2*(W1 d:Int):=Int.mul_le_mul_of_nonneg_right (by omega) (by omega)
         obtain⟨q,p',e,e1,e2,g⟩:=sub p (by omega) (by omega)
         dsimp only
         rw [b8 (by omega),i9,e,a8]
         dsimp only
         rw [F1 (by simp only [j9];omega),a8]
         refine⟨_,rfl,ks++[q],p',?_,by simp [k1],by omega,?_,fun k hk=>?_⟩
         ·rw [B9 ⟨by omega,by omega⟩]
          congr 1
          omega
         ·rw [show ((i+1:Nat):Int)*(W1 d:Int)=(i:Int)*(W1 d:Int)+W1 d by rw [Int.natCast_add,Int.add_mul];simp]
          omega
         ·rcases List.mem_append.1 hk with hk | hk
          ·exact k4 k hk
          ·rw [List.mem_singleton] at hk;subst hk;exact g)
        (fun st hI=>by
         obtain⟨ks,p,rfl,k1,k2,k3,k4⟩:=hI
         dsimp only
         rw [c6 (by omega),i6]
         have hid:((n+2:Nat):Int)*(W1 d:Int)≤3*(W1 d:Int):=Int.mul_le_mul_of_nonneg_right (by omega) (by omega)
         exact⟨_,rfl,ks,p,rfl,k1,by omega,by omega,k4⟩) (n+2) 0 ((2:Int)+(n:Int),⟨r.b_,r.p_+1+1+1⟩,⟨8,[],[],0,0,[]⟩) F (by omega) (by omega)
        ⟨[],r.p_+1+1+1,by congr 1;omega,rfl,by omega,by omega,fun k hk=>by cases hk⟩
       rw [ht,a8,a8]
       exact⟨_,_,rfl,k2,k3,.or (by omega) (by omega) k4⟩
      obtain⟨qo,po,eo,o1,o2,go⟩:=orCase
      cases y==(2:Int)
      ·rw [i6,a8]
       cases y==(3:Int)
       ·rw [i6,a8]
        dsimp only [Sum.elim_inl]
        rw [eo]
        exact⟨_,_,rfl,⟨o1,by omega⟩,go⟩
       ·rw [i9,e2,a8]
        exact⟨_,_,rfl,⟨p1,by omega⟩,good7⟩
      ·rw [i9,a8,i9,e2,a8]
       exact⟨_,_,rfl,⟨p1,by omega⟩,good7⟩
     ·rw [i9]
      obtain⟨z,hz,z0,z1⟩:=H7 F ⟨r.b_,r.p_+1+1⟩ 4 ⟨h1,by simp only;omega,by simp only;omega⟩
      have z1:=z1 (by omega)
      obtain⟨qa,pa,ea,a1,a2,ga⟩:=sub (r.p_+1+1+1) (by omega) (by omega)
      rw [hz,a8]
      dsimp only
      rw [ea,a8,B9 (n:=(2:Int)+z) ⟨by omega,by omega⟩,a8]
      exact⟨_,_,rfl,⟨by omega,by omega⟩,.times (by omega) (by omega) ga⟩
    ·rw [i9]
     obtain⟨qa,pa,ea,a1,a2,ga⟩:=sub (r.p_+1+1) (by omega) (by omega)
     obtain⟨qb,pb,eb,b1,b2,gb⟩:=sub pa (by omega) (by omega)
     rw [ea,a8]
     dsimp only
     rw [eb,a8,a8]
     exact⟨_,_,rfl,⟨by omega,by omega⟩,.less ga gb⟩
end Go.Fk
set_option linter.unusedVariables false
namespace Go.Fk
open Go
theorem b6D (F:Nat)(a:List Int)(ha:a.length<1000000000)(hF:a.length<F):a1D F a a=some true:=by
 unfold a1D
 rw [beq_self_eq_true,l9,i6,b5l (n:=a.length) F (by omega) (fun i hi=>?_) ?_]
 ·rfl
 ·rw [c6 (by omega)];rfl
 ·rw [b8 (by omega),i9,a0m hi,a8,a8,y2 (by omega),beq_self_eq_true]
  rfl
end Go.Fk
