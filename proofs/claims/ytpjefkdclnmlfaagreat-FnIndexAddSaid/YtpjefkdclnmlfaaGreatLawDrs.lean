import Derived.Test.YtpjefkdclnmlfaaGreatLawRdAll
import Derived.Test.YtpjefkdclnmlfaaGreatLawWD
import Derived.Test.YtpjefkdclnmlfaaGreatLawSegKL
/-
  The draws of documents go through, whatever the code. Of no program.
-/
namespace Go.Fk
open Go
def Drew (r:GL30Rd)(p:Int)(c:Nat):Prop:=r.p_≤p∧p≤r.p_+c
def RdAt (r:GL30Rd)(m:Nat):Prop:=r.b_.length≤2000∧0≤r.p_∧r.p_≤m
theorem anyText_ok (F:Nat)(r:GL30Rd)(hr:RdAt r 900000)(hF:20≤F): ∃s p,M.spec_l30AnyText F r=some (s,⟨r.b_,p⟩)∧Drew r p 110∧s.length≤400:=by
 obtain⟨h1,h2,h3⟩:=hr
 unfold M.spec_l30AnyText
 obtain⟨s,p,hs,p0,p1,hl⟩:=text_ok F r ⟨h1,h2,by omega⟩ hF
 rw [hs,Option.bind_some]
 dsimp only
 obtain⟨x,hx,x0,x1⟩:=pick_ok F ⟨r.b_,p⟩ 12 ⟨h1,by simp only;omega,by simp only;omega⟩
 rw [hx,Option.bind_some]
 dsimp only
 have hm:1000≤maxLen:=by decide
 cases x==(0:Int)
 ·exact⟨_,_,rfl,⟨by omega,by omega⟩,by omega⟩
 ·rw [cond_true]
  generalize hlst:([_,_,_]:List Str)=lst
  have hne:lst≠[]:=by rw [←hlst];simp
  have hlen: ∀s∈lst,s.length≤200:=by
   rw [←hlst]
   set_option maxRecDepth 100000 in decide
  obtain⟨t,htm,ht⟩:=of_ok F ⟨r.b_,p+1⟩ lst ⟨h1,by simp only;omega,by simp only;omega⟩ hne
  have htl:=hlen t htm
  rw [ht,Option.bind_some]
  dsimp only
  rw [catS,if_pos (by omega)]
  exact⟨_,_,rfl,⟨by omega,by omega⟩,by simp only [List.length_append];omega⟩
structure DocDrawn (f n:Nat)(d:GDoc):Prop where
 fields:d.Fields.length≤f
 nums:d.Nums.length≤n
 field: ∀f∈d.Fields,f.Name.length≤1000∧f.Text.length≤1000
 num: ∀a∈d.Nums,a.Name.length≤1000
theorem DocDrawn.fit {f n:Nat}{d:GDoc}(h:DocDrawn f n d)(hf:f≤100)(hn:n≤100):DocFit d:=⟨by have:=h.fields;omega,by have:=h.nums;omega,h.field,h.num⟩
theorem DocDrawn.putField {f n:Nat}{i:Int}{a:List GField}{b:List GAttr}(h:DocDrawn f n ⟨i,a,b⟩)(x:GField)(hx:x.Name.length≤1000∧x.Text.length≤1000):DocDrawn (f+1) n ⟨i,a++[x],b⟩:=by
 refine⟨by have:=h.fields;simp only [List.length_append,List.length_singleton] at this ⊢;omega,h.nums,fun y hy=>?_,h.num⟩
 rcases List.mem_append.1 hy with hy | hy
 ·exact h.field y hy
 ·rw [List.mem_singleton.1 hy];exact hx
theorem DocDrawn.putNum {f n:Nat}{i:Int}{a:List GField}{b:List GAttr}(h:DocDrawn f n ⟨i,a,b⟩)(x:GAttr)(hx:x.Name.length≤1000):DocDrawn f (n+1) ⟨i,a,b++[x]⟩:=by
 refine⟨h.fields,by have:=h.nums;simp only [List.length_append,List.length_singleton] at this ⊢;omega,h.field,fun y hy=>?_⟩
 rcases List.mem_append.1 hy with hy | hy
 ·exact h.num y hy
 ·rw [List.mem_singleton.1 hy];exact hx
theorem DocDrawn.more {f n f' n':Nat}{d:GDoc}(h:DocDrawn f n d)(hf:f≤f')(hn:n≤n'):DocDrawn f' n' d:=⟨by have:=h.fields;omega,by have:=h.nums;omega,h.field,h.num⟩
theorem doc_ok (F:Nat)(r:GL30Rd)(id:Int)(hr:RdAt r 900000)(hF:20≤F): ∃d p,M.spec_l30Doc F r id=some (d,⟨r.b_,p⟩)∧Drew r p 300∧DocDrawn 2 2 d:=by
 obtain⟨h1,h2,h3⟩:=hr
 have hm:10000≤maxLen:=by decide
 unfold M.spec_l30Doc
 have e0:DocDrawn 0 0 ⟨id,[],[]⟩:=⟨by simp,by simp,by simp,by simp⟩
 obtain⟨a1,ha1,_,_⟩:=pick_ok F r 6 ⟨h1,by omega,by omega⟩
 rw [ha1,Option.bind_some]
 dsimp only
 -- the first field
 have s1: ∃d p,(cond (decide ((0:Int)<a1)) (Option.bind (M.spec_l30Text F ⟨r.b_,r.p_+1⟩) fun r58=>(Option.bind (catL 32 ([]:List GField) ([(GField.mk ([98,111,100,121]:Str) r58.1)]:List GField)) fun x79=>(some (r58.2,(GDoc.mk id x79 ([]:List GAttr)))))) (some ((⟨r.b_,r.p_+1⟩:GL30Rd),(GDoc.mk id ([]:List GField) ([]:List GAttr)))):Option (GL30Rd×GDoc))=some (⟨r.b_,p⟩,d)∧Drew r p 101∧DocDrawn 1 0 d:=by
  cases decide ((0:Int)<a1)
  ·exact⟨_,_,rfl,⟨by omega,by omega⟩,e0.more (by omega) (by omega)⟩
  ·obtain⟨s,p,hs,q0,q1,ql⟩:=text_ok F ⟨r.b_,r.p_+1⟩ ⟨h1,by simp only;omega,by simp only;omega⟩ hF
   simp only at q0 q1
   rw [cond_true,hs,Option.bind_some,catLok (by simp)]
   exact⟨_,_,rfl,⟨by omega,by omega⟩,e0.putField _ ⟨by simp,by simp only;omega⟩⟩
 obtain⟨d1,p1,hs1,⟨q1,q2⟩,hd1⟩:=s1
 rw [hs1,Option.bind_some]
 dsimp only
 obtain⟨a2,ha2,_,_⟩:=pick_ok F ⟨r.b_,p1⟩ 3 ⟨h1,by simp only;omega,by simp only;omega⟩
 rw [ha2,Option.bind_some]
 dsimp only
 have s2: ∃d p,(cond (a2==(0:Int)) (Option.bind (M.spec_l30Text F ⟨r.b_,p1+1⟩) fun r144=>(Option.bind (catL 32 d1.Fields ([(GField.mk ([116,105,116,108,101]:Str) r144.1)]:List GField)) fun x165=>(some (r144.2,(GDoc.mk d1.Id x165 d1.Nums))))) (some ((⟨r.b_,p1+1⟩:GL30Rd),d1)):Option (GL30Rd×GDoc))=some (⟨r.b_,p⟩,d)∧Drew r p 202∧DocDrawn 2 0 d:=by
  cases a2==(0:Int)
  ·exact⟨_,_,rfl,⟨by omega,by omega⟩,hd1.more (by omega) (by omega)⟩
  ·obtain⟨s,p,hs,w0,w1,wl⟩:=text_ok F ⟨r.b_,p1+1⟩ ⟨h1,by simp only;omega,by simp only;omega⟩ hF
   simp only at w0 w1
   have:=hd1.fields
   rw [cond_true,hs,Option.bind_some,catLok (by simp only [List.length_singleton];omega)]
   exact⟨_,_,rfl,⟨by omega,by omega⟩,hd1.putField _ ⟨by simp,by simp only;omega⟩⟩
 obtain⟨d2,p2,hs2,⟨q3,q4⟩,hd2⟩:=s2
 rw [hs2,Option.bind_some]
 dsimp only
 obtain⟨a3,ha3,_,_⟩:=pick_ok F ⟨r.b_,p2⟩ 3 ⟨h1,by simp only;omega,by simp only;omega⟩
 rw [ha3,Option.bind_some]
 dsimp only
 have s3: ∃d p,(cond (decide ((0:Int)<a3)) (Option.bind (M.spec_l30Rd_pick F ⟨r.b_,p2+1⟩ (4:Int)) fun r224=>(Option.bind (catL 24 d2.Nums ([(GAttr.mk ([114,97,116,101]:Str) r224.1)]:List GAttr)) fun x245=>(some (r224.2,(GDoc.mk d2.Id d2.Fields x245))))) (some ((⟨r.b_,p2+1⟩:GL30Rd),d2)):Option (GL30Rd×GDoc))=some (⟨r.b_,p⟩,d)∧Drew r p 204∧DocDrawn 2 1 d:=by
  cases decide ((0:Int)<a3)
  ·exact⟨_,_,rfl,⟨by omega,by omega⟩,hd2.more (by omega) (by omega)⟩
  ·obtain⟨x,hx,_,_⟩:=pick_ok F ⟨r.b_,p2+1⟩ 4 ⟨h1,by simp only;omega,by simp only;omega⟩
   have:=hd2.nums
   rw [cond_true,hx,Option.bind_some,catLok (by simp only [List.length_singleton];omega)]
   exact⟨_,p2+1+1,rfl,⟨by omega,by omega⟩,hd2.putNum _ (by simp)⟩
 obtain⟨d3,p3,hs3,⟨q5,q6⟩,hd3⟩:=s3
 rw [hs3,Option.bind_some]
 dsimp only
 obtain⟨a4,ha4,_,_⟩:=pick_ok F ⟨r.b_,p3⟩ 3 ⟨h1,by simp only;omega,by simp only;omega⟩
 rw [ha4,Option.bind_some]
 dsimp only
 cases a4==(0:Int)
 ·exact⟨_,_,rfl,⟨by omega,by omega⟩,hd3.more (by omega) (by omega)⟩
 ·obtain⟨x,hx,_,_⟩:=pick_ok F ⟨r.b_,p3+1⟩ 30 ⟨h1,by simp only;omega,by simp only;omega⟩
  have:=hd3.nums
  rw [cond_true,hx,Option.bind_some,catLok (by simp only [List.length_singleton];omega)]
  exact⟨_,p3+1+1,rfl,⟨by omega,by omega⟩,hd3.putNum _ (by simp)⟩
def DocsDrawn (k:Nat)(ds:List GDoc):Prop:=ds.length≤k∧∀d∈ds,DocDrawn 3 3 d
theorem DocsDrawn.fit {k:Nat}{ds:List GDoc}(h:DocsDrawn k ds)(hk:k≤100):DocsFit ds:=⟨by have:=h.1;omega,fun d hd=>(h.2 d hd).fit (by omega) (by omega)⟩
theorem docs_ok (F:Nat)(r:GL30Rd)(hr:RdAt r 100000)(hF:20≤F): ∃ds p,M.spec_l30Docs F r=some (ds,⟨r.b_,p⟩)∧Drew r p 2000∧DocsDrawn 5 ds:=by
 obtain⟨h1,h2,h3⟩:=hr
 unfold M.spec_l30Docs
 obtain⟨n,hn,n0,n1⟩:=pick_ok F r 6 ⟨h1,h2,by omega⟩
 have n1:=n1 (by decide)
 rw [hn,Option.bind_some]
 dsimp only
 generalize hf:(fun (s44:(List GDoc)×Int×Int×GL30Rd)=>_:(List GDoc)×Int×Int×GL30Rd→Option (((List GDoc)×Int×Int×GL30Rd)⊕((List GDoc)×GL30Rd)))=f
 have key: ∀(k:Nat) (ds:List GDoc) (id p:Int) (F:Nat),k+1≤F→0≤p→p+301*k≤800000→DocsDrawn (5-k) ds→k≤5→∃ds' p',whileM f F (ds,id,(k:Int),⟨r.b_,p⟩)=some (ds',⟨r.b_,p'⟩)∧p≤p'∧p'≤p+301*k∧DocsDrawn 5 ds':=by
  intro k
  induction k with
  | zero=>
   intro ds id p F hF _ _ hd _
   obtain⟨F,rfl⟩: ∃G,F=G+1:=⟨F-1,by omega⟩
   rw [whileM]
   subst hf
   exact⟨ds,p,rfl,by omega,by omega,hd⟩
  | succ k ih=>
   intro ds id p F' hF' p0 p1 hs hk
   obtain⟨F',rfl⟩: ∃G,F'=G+1:=⟨F'-1,by omega⟩
   obtain⟨a,ha,_,_⟩:=pick_ok F ⟨r.b_,p⟩ 3 ⟨h1,p0,by simp only;omega⟩
   obtain⟨d,q,hdq,⟨q0,q1⟩,hdd⟩:=doc_ok F ⟨r.b_,p+1⟩ (w64 (w64 (id+1)+a)) ⟨h1,by simp only;omega,by simp only;omega⟩ hF
   simp only at q0 q1
   have hs1:=hs.1
   have hstep:f (ds,id,((k+1:Nat):Int),⟨r.b_,p⟩)=some (.inl (ds++[d],w64 (w64 (id+1)+a),(k:Int),⟨r.b_,q⟩)):=by
    rw [←hf]
    dsimp only
    have c3:w64 (((k+1:Nat):Int)-1)=(k:Int):=by rw [w64_of ⟨by omega,by omega⟩];omega
    rw [decide_eq_true (by omega),cond_true,ha,Option.bind_some]
    dsimp only
    rw [hdq,Option.bind_some,catLok (by simp only [List.length_singleton];omega),Option.bind_some,c3]
   rw [whileM,hstep]
   simp only [Option.bind_some,Sum.elim_inl]
   obtain⟨ws',p',hw,a1,a2,a3⟩:=ih (ds++[d]) (w64 (w64 (id+1)+a)) q F' (by omega) (by omega) (by omega) ⟨by simp only [List.length_append,List.length_singleton];omega,fun x hx=>by
    rcases List.mem_append.1 hx with h | h
    ·exact hs.2 x h
    ·rw [List.mem_singleton.1 h];exact hdd.more (by omega) (by omega)⟩ (by omega)
   exact⟨ws',p',hw,by omega,by omega,a3⟩
 obtain⟨k,rfl⟩:=Int.eq_ofNat_of_zero_le n0
 obtain⟨s',p',hw,a1,a2,a3⟩:=key k [] 0 (r.p_+1) F (by omega) (by omega) (by omega) ⟨by simp,by simp⟩ (by omega)
 rw [hw]
 exact⟨s',p',rfl,⟨by omega,by omega⟩,a3⟩
theorem anyDoc_ok (F:Nat)(r:GL30Rd)(hr:RdAt r 800000)(hF:20≤F): ∃d p,M.spec_l30AnyDoc F r=some (d,⟨r.b_,p⟩)∧Drew r p 1000∧DocDrawn 3 3 d:=by
 obtain⟨h1,h2,h3⟩:=hr
 unfold M.spec_l30AnyDoc
 obtain⟨a1,ha1,_,_⟩:=pick_ok F r 9 ⟨h1,by omega,by omega⟩
 rw [ha1,Option.bind_some]
 dsimp only
 obtain⟨d,q,hdq,⟨q0,q1⟩,hdd⟩:=doc_ok F ⟨r.b_,r.p_+1⟩ (w64 (1+a1)) ⟨h1,by simp only;omega,by simp only;omega⟩ hF
 simp only at q0 q1
 rw [hdq,Option.bind_some]
 dsimp only
 obtain⟨a2,ha2,_,_⟩:=pick_ok F ⟨r.b_,q⟩ 14 ⟨h1,by simp only;omega,by simp only;omega⟩
 rw [ha2,Option.bind_some]
 dsimp only
 have hf:=hdd.fields
 have hn:=hdd.nums
 have hr2:RdOk ⟨r.b_,q+1⟩:=⟨h1,by simp only;omega,by simp only;omega⟩
 cases a2==(0:Int) with
 | true=>
  obtain⟨x,_,hx⟩:=one_ok F ⟨r.b_,q+1⟩ ([(0:Int),(10000:Int),(9999:Int)]:List Int) hr2 (by simp)
  rw [cond_true,hx]
  exact⟨_,_,rfl,⟨by simp only;omega,by simp only;omega⟩,⟨by simp only;omega,by simp only;omega,hdd.field,hdd.num⟩⟩
 | false=>
  rw [cond_false]
  cases a2==(1:Int) with
  | true=>
   rw [cond_true,catLok (by simp only [List.length_singleton];omega)]
   exact⟨_,_,rfl,⟨by omega,by omega⟩,(hdd.putField _ ⟨by simp,by simp⟩).more (by omega) (by omega)⟩
  | false=>
   rw [cond_false]
   cases a2==(2:Int) with
   | true=>
    obtain⟨x,_,hx⟩:=one_ok F ⟨r.b_,q+1⟩ ([(-1:Int),(1000000000:Int)]:List Int) hr2 (by simp)
    rw [cond_true,hx,Option.bind_some,catLok (by simp only [List.length_singleton];omega)]
    exact⟨_,_,rfl,⟨by simp only;omega,by simp only;omega⟩,(hdd.putNum _ (by simp)).more (by omega) (by omega)⟩
   | false=>
    rw [cond_false]
    cases a2==(3:Int) with
    | true=>
     obtain⟨s,p,hs,⟨w0,w1⟩,wl⟩:=anyText_ok F ⟨r.b_,q+1⟩ ⟨h1,by simp only;omega,by simp only;omega⟩ hF
     simp only at w0 w1
     rw [cond_true,hs,Option.bind_some,catLok (by simp only [List.length_singleton];omega)]
     exact⟨_,_,rfl,⟨by omega,by omega⟩,(hdd.putField _ ⟨by simp,by simp only;omega⟩).more (by omega) (by omega)⟩
    | false=>
     exact⟨_,_,rfl,⟨by omega,by omega⟩,hdd.more (by omega) (by omega)⟩
theorem anyDocs_ok (F:Nat)(r:GL30Rd)(hr:RdAt r 100000)(hF:20≤F): ∃ds p,M.spec_l30AnyDocs F r=some (ds,⟨r.b_,p⟩)∧Drew r p 4000∧DocsDrawn 6 ds:=by
 unfold M.spec_l30AnyDocs
 obtain⟨ds,p,hs,⟨p0,p1⟩,hd⟩:=docs_ok F r hr hF
 obtain⟨h1,h2,h3⟩:=hr
 have hd1:=hd.1
 rw [hs,Option.bind_some]
 dsimp only
 obtain⟨a,ha,_,_⟩:=pick_ok F ⟨r.b_,p⟩ 10 ⟨h1,by simp only;omega,by simp only;omega⟩
 rw [ha,Option.bind_some]
 dsimp only
 cases a==(0:Int)
 ·exact⟨_,_,rfl,⟨by omega,by omega⟩,by omega,hd.2⟩
 ·obtain⟨d,q,hdq,⟨q0,q1⟩,hdd⟩:=anyDoc_ok F ⟨r.b_,p+1⟩ ⟨h1,by simp only;omega,by simp only;omega⟩ hF
  simp only at q0 q1
  rw [cond_true,hdq,Option.bind_some,catLok (by simp only [List.length_singleton];omega)]
  refine⟨_,_,rfl,⟨by omega,by omega⟩,by simp only [List.length_append,List.length_singleton];omega,fun x hx=>?_⟩
  rcases List.mem_append.1 hx with h | h
  ·exact hd.2 x h
  ·rw [List.mem_singleton.1 h];exact hdd
end Go.Fk
set_option linter.unusedVariables false
namespace Go.Fk
open Go
def stopsD:List (List Str):=[[],[[116,104,101]],[[100,111,103],[116,104,101]]]
def synsD:List (List GSyn):=[[],[⟨[[110,101,119],[121,111,114,107]],[110,121]⟩],[⟨[[98,105,103]],[108,97,114,103]⟩,⟨[[98,105,103],[114,101,100],[102,111,120]],[102,111,120]⟩,⟨[[110,101,119],[121,111,114,107]],[110,121]⟩]]
def ConfDrawn (c:GConf):Prop:=c.Stops∈stopsD∧c.Syns∈synsD
theorem conf_ok (F:Nat)(r:GL30Rd)(hr:RdAt r 900000): ∃c p,M.spec_l30Conf F r=some (c,⟨r.b_,p⟩)∧Drew r p 3∧ConfDrawn c:=by
 obtain⟨h1,h2,h3⟩:=hr
 unfold M.spec_l30Conf
 obtain⟨a,ha,_,_⟩:=pick_ok F r 3 ⟨h1,h2,by omega⟩
 obtain⟨b,hb,_,_⟩:=pick_ok F ⟨r.b_,r.p_+1⟩ 4 ⟨h1,by simp only;omega,by simp only;omega⟩
 obtain⟨d,hd,_,_⟩:=pick_ok F ⟨r.b_,r.p_+1+1⟩ 4 ⟨h1,by simp only;omega,by simp only;omega⟩
 rw [ha,Option.bind_some]
 have c1: ∃st,(cond (decide ((0:Int)<a)) (some (GConf.mk ([([116,104,101]:Str)]:List Str) ([]:List GSyn))) (some (GConf.mk ([]:List Str) ([]:List GSyn))))=some (GConf.mk st [])∧st∈stopsD:=by
  cases decide ((0:Int)<a)
  ·exact⟨_,rfl,by simp [stopsD]⟩
  ·exact⟨_,rfl,by simp [stopsD]⟩
 obtain⟨st,e1,m1⟩:=c1
 have e1':(cond (decide ((0:Int)<(a,GL30Rd.mk r.b_ (r.p_+1)).1)) (some (GConf.mk ([([116,104,101]:Str)]:List Str) ([]:List GSyn))) (some (GConf.mk ([]:List Str) ([]:List GSyn))))=some (GConf.mk st []):=e1
 rw [e1',Option.bind_some]
 dsimp only
 rw [hb,Option.bind_some]
 dsimp only
 have c2: ∃st',(cond (b==(0:Int)) (some (GConf.mk ([([100,111,103]:Str),([116,104,101]:Str)]:List Str) ([]:List GSyn))) (some (GConf.mk st [])))=some (GConf.mk st' [])∧st'∈stopsD:=by
  cases b==(0:Int)
  ·exact⟨_,rfl,m1⟩
  ·exact⟨_,rfl,by simp [stopsD]⟩
 obtain⟨st',e2,m2⟩:=c2
 rw [e2,Option.bind_some,hd,Option.bind_some]
 dsimp only
 cases d==(0:Int)
 ·cases d==(1:Int)
  ·exact⟨_,_,rfl,⟨by omega,by omega⟩,m2,by simp [synsD]⟩
  ·exact⟨_,_,rfl,⟨by omega,by omega⟩,m2,by simp [synsD]⟩
 ·exact⟨_,_,rfl,⟨by omega,by omega⟩,m2,by simp [synsD]⟩
theorem fits_of_mem {B:Nat}{c:GConf}(h1:c.Stops.length≤B∧∀s∈c.Stops,s.length≤B)(h2:c.Syns.length≤B∧∀r∈c.Syns,r.To.length≤B∧r.From.length≤B∧∀w∈r.From,w.length≤B):ConfFit B c:=by
 constructor
 ·exact h1
 ·exact⟨h2.1,fun r hr=>⟨(h2.2 r hr).2.1,(h2.2 r hr).1,(h2.2 r hr).2.2⟩⟩
theorem stops_fit: ∀a∈stopsD,a.length≤90∧∀s∈a,s.length≤100:=by decide
theorem syns_fit: ∀a∈synsD,a.length≤90∧∀r∈a,r.To.length≤100∧r.From.length≤100∧∀w∈r.From,w.length≤100:=by decide
theorem ConfDrawn.fit {c:GConf}(h:ConfDrawn c):ConfFit 100 c:=by
 obtain⟨a1,a2⟩:=stops_fit _ h.1
 obtain⟨b1,b2⟩:=syns_fit _ h.2
 exact fits_of_mem ⟨by omega,a2⟩ ⟨by omega,b2⟩
end Go.Fk
set_option linter.unusedVariables false
namespace Go.Fk
open Go
theorem foDoc_same (F:Nat)(d:GDoc)(hd:DocFit d)(hF:2000<F):M.laws_foDoc F d d=some true:=by
 obtain⟨b1,b2,_,_⟩:=hd
 unfold M.laws_foDoc
 simp only [beq_self_eq_true,Bool.not_true,cond_false,Option.bind_some]
 rw [clean0' (n:=d.Fields.length) F (by omega) (fun i hi=>?_) ?_]
 ·simp only [Option.bind_some,Sum.elim_inl]
  rw [clean0' (n:=d.Nums.length) F (by omega) (fun i hi=>?_) ?_]
  ·rfl
  ·rw [decide_eq_false (by omega)];rfl
  ·rw [decide_eq_true (by omega),cond_true,getI_at hi,Option.bind_some,Option.bind_some,w64_succ' (by omega)]
   simp
 ·rw [decide_eq_false (by omega)];rfl
 ·rw [decide_eq_true (by omega),cond_true,getI_at hi,Option.bind_some,Option.bind_some,w64_succ' (by omega)]
  simp
theorem foDocs_same (F:Nat)(ds:List GDoc)(hd:DocsFit ds)(hF:2000<F):M.laws_foDocs F ds ds=some true:=by
 have hl:=hd.few
 unfold M.laws_foDocs
 rw [beq_self_eq_true,Bool.not_true,cond_false,clean0' (n:=ds.length) F (by omega) (fun i hi=>?_) ?_]
 ·rfl
 ·rw [decide_eq_false (by omega)];rfl
 ·rw [decide_eq_true (by omega),cond_true,getI_at hi,Option.bind_some,Option.bind_some,foDoc_same F _ (hd.doc _ (List.getElem_mem hi)) hF,w64_succ' (by omega)]
  rfl
theorem foInts_same (F:Nat)(a:List Int)(ha:a.length<1000000000)(hF:a.length<F):M.laws_foInts F a a=some true:=by
 unfold M.laws_foInts
 rw [beq_self_eq_true,Bool.not_true,cond_false,clean0' (n:=a.length) F (by omega) (fun i hi=>?_) ?_]
 ·rfl
 ·rw [decide_eq_false (by omega)];rfl
 ·rw [decide_eq_true (by omega),cond_true,getI_at hi,Option.bind_some,Option.bind_some,w64_succ' (by omega),beq_self_eq_true]
  rfl
theorem foPosts_same (F:Nat)(a:List GPost)(ha:a.length≤10000∧∀p∈a,p.At.length≤10000)(hF:10000<F):M.laws_foPosts F a a=some true:=by
 have hl:=ha.1
 unfold M.laws_foPosts
 rw [beq_self_eq_true,Bool.not_true,cond_false,clean0' (n:=a.length) F (by omega) (fun i hi=>?_) ?_]
 ·rfl
 ·rw [decide_eq_false (by omega)];rfl
 ·have:=ha.2 _ (List.getElem_mem hi)
  rw [decide_eq_true (by omega),cond_true,getI_at hi,Option.bind_some,Option.bind_some,beq_self_eq_true,Bool.not_true,cond_false,Option.bind_some,Option.bind_some,foInts_same F _ (by omega) (by omega),w64_succ' (by omega)]
  rfl
theorem foSeg_same (F:Nat)(s:GSeg)(hd:DocsFit s.Docs)(hf:Fits 10000 s.Entries)(hF:10000<F):M.laws_foSeg F s s=some true:=by
 have hl:=hf.1
 unfold M.laws_foSeg
 rw [foDocs_same F _ hd (by omega),Option.bind_some,Bool.not_true,cond_false,beq_self_eq_true,Bool.not_true,Option.bind_some,cond_false,clean0' (n:=s.Entries.length) F (by omega) (fun i hi=>?_) ?_]
 ·rfl
 ·rw [decide_eq_false (by omega)];rfl
 ·have hp:=hf.2 _ (List.getElem_mem hi)
  rw [decide_eq_true (by omega),cond_true,getI_at hi,Option.bind_some,Option.bind_some,beq_self_eq_true,Bool.not_true,cond_false,Option.bind_some,Option.bind_some,beq_self_eq_true,Bool.not_true,cond_false,Option.bind_some,Option.bind_some,foPosts_same F _ hp (by omega),w64_succ' (by omega)]
  rfl
end Go.Fk
