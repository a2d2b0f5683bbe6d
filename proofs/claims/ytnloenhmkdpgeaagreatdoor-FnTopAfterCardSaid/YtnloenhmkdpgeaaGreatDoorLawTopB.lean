/-
  Pieces as they are drawn are sound but for one change; so their points are told. The law of what comes behind a hit. Of no program.
-/
import Derived.Test.YtnloenhmkdpgeaaGreatDoorModelLTopAfter
import Derived.Test.YtnloenhmkdpgeaaGreatDoorLawTopA
set_option linter.unusedVariables false
namespace Go.Fk
open Go
theorem e0h (F:Nat)(r:z7)(hr:c2K r): ∃s,a3M F r=some (s,⟨r.b_,r.p_+1⟩)∧s.length≤17∧s.all a8T=true:=by
 unfold a3M
 obtain⟨s,hm,hs⟩:=a8q F r (l:=([([99,97,116]:r4),([67,97,116,115]:r4),([100,111,103]:r4),([100,111,103,115]:r4),([114,117,110]:r4),([82,85,78,78,73,78,71]:r4),([116,104,101]:r4),([114,101,100]:r4),([98,105,103]:r4),([110,101,119,32,121,111,114,107]:r4),([78,101,119,32,32,89,111,114,107]:r4),([110,121]:r4),([102,111,120]:r4),([112,97,115,115,101,100]:r4),([120,49]:r4),([97,118,101,114,121,118,101,114,121,108,111,110,103,119,111,114,100]:r4)]:List r4)) hr (by simp)
 rw [hs]
 exact⟨s,rfl,(by decide : ∀s∈([([99,97,116]:r4),([67,97,116,115]:r4),([100,111,103]:r4),([100,111,103,115]:r4),([114,117,110]:r4),([82,85,78,78,73,78,71]:r4),([116,104,101]:r4),([114,101,100]:r4),([98,105,103]:r4),([110,101,119,32,121,111,114,107]:r4),([78,101,119,32,32,89,111,114,107]:r4),([110,121]:r4),([102,111,120]:r4),([112,97,115,115,101,100]:r4),([120,49]:r4),([97,118,101,114,121,118,101,114,121,108,111,110,103,119,111,114,100]:r4)]:List r4),s.length≤17∧s.all a8T=true) s hm⟩
theorem c90 (F:Nat)(r:z7)(hr:r.b_.length≤2000∧0≤r.p_∧r.p_≤1000000)(hF:20≤F): ∃s p,W5 F r=some (s,⟨r.b_,p⟩)∧r.p_≤p∧p≤r.p_+100∧a2n s=true:=by
 obtain⟨h1,h2,h3⟩:=hr
 unfold W5
 obtain⟨n,hn,n0,n1⟩:=O3 F r 9 ⟨h1,h2,by omega⟩
 have n1:=n1 (by decide)
 rw [hn,a8]
 simp only
 generalize hf:(fun (s34:r4×Int×z7)=>_:r4×Int×z7→Option ((r4×Int×z7)⊕(r4×z7)))=f
 have key: ∀(k:Nat) (s:r4) (p:Int) (F:Nat),k+1≤F→0≤p→p+2*k≤2000000→s.length+19*k≤19*8→k≤8→s.all a8T=true→∃s' p',y2 f F (s,(k:Int),⟨r.b_,p⟩)=some (s',⟨r.b_,p'⟩)∧p≤p'∧p'≤p+2*k∧s'.length≤s.length+19*k∧s'.all a8T=true:=by
  intro k
  induction k with
  | zero=>
   intro s p F hF _ _ _ _ hall
   obtain⟨F,rfl⟩: ∃G,F=G+1:=⟨F-1,by omega⟩
   rw [y2]
   subst hf
   exact⟨s,p,rfl,by omega,by omega,by omega,hall⟩
  | succ k ih=>
   intro s p F' hF' p0 p1 hs hk hall
   obtain⟨F',rfl⟩: ∃G,F'=G+1:=⟨F'-1,by omega⟩
   obtain⟨a,ha,hal,haa⟩:=e0h F ⟨r.b_,p⟩ ⟨h1,p0,by simp only;omega⟩
   obtain⟨b,hbm,hb⟩:=a8q F ⟨r.b_,p+1⟩ ([([32]:r4),([32]:r4),([44,32]:r4),([45]:r4),([46,32]:r4)]:List r4) ⟨h1,by simp only;omega,by simp only;omega⟩ (by simp)
   have hbl:b.length≤2∧b.all a8T=true:=(by decide : ∀s∈([([32]:r4),([32]:r4),([44,32]:r4),([45]:r4),([46,32]:r4)]:List r4),s.length≤2∧s.all a8T=true) b hbm
   have hstep:f (s,((k+1:Nat):Int),⟨r.b_,p⟩)=some (.inl (s++a++b,(k:Int),⟨r.b_,p+1+1⟩)):=by
    rw [←hf]
    simp only
    rw [b8 (by omega),j4,ha,a8]
    simp only
    have hm:1000≤maxLen:=by decide
    have c1:b0h s a=some (s++a):=by rw [b0h,if_pos (by omega)]
    have c2:b0h (s++a) b=some (s++a++b):=by rw [b0h,if_pos (by rw [o0];omega)]
    have c3:z8 (((k+1:Nat):Int)-1)=(k:Int):=by rw [C5 ⟨by omega,by omega⟩];omega
    rw [c1,a8,hb,a8]
    simp only
    rw [c2,a8,c3]
   rw [y2,hstep]
   simp only [a8,Sum.elim_inl]
   obtain⟨s',p',hw,a1,a2,a3,a4⟩:=ih (s++a++b) (p+1+1) F' (by omega) (by omega) (by omega) (by simp only [o0];omega) (by omega) (by rw [List.all_append,List.all_append,hall,haa,hbl.2];rfl)
   refine⟨s',p',hw,by omega,by omega,?_,a4⟩
   simp only [o0] at a3
   omega
 obtain⟨k,rfl⟩:=Int.eq_ofNat_of_zero_le n0
 obtain⟨s',p',hw,a1,a2,a3,a4⟩:=key k [] (r.p_+1) F (by omega) (by omega) (by omega) (by simp only [List.length_nil];omega) (by omega) rfl
 rw [hw]
 simp only [List.length_nil] at a3
 exact⟨s',p',rfl,by omega,by omega,by unfold a2n;rw [a4,b8 (by omega)];rfl⟩
structure DG (id:Int)(f n:Nat)(d:A1):Prop where
 hid:d.Id=id
 hf:d.Fields.length≤f
 hn:d.Nums.length≤n
 fok: ∀x∈d.Fields,a5G x=true
 fpw:d.Fields.Pairwise fun a b=>a5b a b=true
 nok: ∀x∈d.Nums,a7j x=true
 npw:d.Nums.Pairwise fun a b=>a74 a b=true
 fst:f≤1→∀x∈d.Fields,x.Name=[98,111,100,121]
 nst:n≤1→∀x∈d.Nums,x.Name=[114,97,116,101]
theorem DG.more {id:Int}{f n f' n':Nat}{d:A1}(h:DG id f n d)(hf:f≤f')(hn:n≤n'):DG id f' n' d:=
 ⟨h.hid,by have:=h.hf;omega,by have:=h.hn;omega,h.fok,h.fpw,h.nok,h.npw,fun q=>h.fst (by omega),fun q=>h.nst (by omega)⟩
theorem DG.body {id i:Int}{n:Nat}{b:List a5j}(h:DG id 0 n ⟨i,[],b⟩)(t:r4)(ht:a2n t=true):DG id 1 n ⟨i,[]++[⟨[98,111,100,121],t⟩],b⟩:=
 ⟨h.hid,by simp,h.hn,fun x hx=>by
  rw [List.nil_append,List.mem_singleton] at hx
  subst hx
  unfold a5G
  rw [ht,show D0 [98,111,100,121]=true from by decide];rfl,by simp,h.nok,h.npw,fun _ x hx=>by
  rw [List.nil_append,List.mem_singleton] at hx
  subst hx;rfl,h.nst⟩
theorem DG.title {id i:Int}{n:Nat}{a:List Q6}{b:List a5j}(h:DG id 1 n ⟨i,a,b⟩)(t:r4)(ht:a2n t=true):DG id 2 n ⟨i,a++[⟨[116,105,116,108,101],t⟩],b⟩:=
 ⟨h.hid,by have:=h.hf;simp only [o0,l8] at this ⊢;omega,h.hn,fun x hx=>by
  rcases List.mem_append.1 hx with hx | hx
  ·exact h.fok x hx
  ·rw [List.mem_singleton.1 hx]
   unfold a5G
   rw [ht,show D0 [116,105,116,108,101]=true from by decide];rfl,List.pairwise_append.2 ⟨h.fpw,List.pairwise_singleton _ _,fun x hx y hy=>by
  rw [List.mem_singleton.1 hy]
  unfold a5b
  rw [h.fst (by omega) x hx]
  exact(by decide :D2 [98,111,100,121] [116,105,116,108,101]=true)⟩,h.nok,h.npw,fun q=>by omega,h.nst⟩
theorem DG.rate {id i:Int}{f:Nat}{a:List Q6}{b:List a5j}(h:DG id f 0 ⟨i,a,b⟩)(v:Int)(h0:0≤v)(h1:v≤999999999):DG id f 1 ⟨i,a,b++[⟨[114,97,116,101],v⟩]⟩:=by
 have hb:b=[]:=List.eq_nil_of_length_eq_zero (by have:=h.hn;simp only at this;omega)
 subst hb
 refine⟨h.hid,h.hf,by simp,h.fok,h.fpw,fun x hx=>?_,by simp,h.fst,fun _ x hx=>?_⟩
 ·rw [List.nil_append,List.mem_singleton] at hx
  subst hx
  unfold a7j
  rw [b8 h0,b8 h1,show D0 [114,97,116,101]=true from by decide];rfl
 ·rw [List.nil_append,List.mem_singleton] at hx
  subst hx;rfl
theorem DG.year {id i:Int}{f:Nat}{a:List Q6}{b:List a5j}(h:DG id f 1 ⟨i,a,b⟩)(v:Int)(h0:0≤v)(h1:v≤999999999):DG id f 2 ⟨i,a,b++[⟨[121,101,97,114],v⟩]⟩:=
 ⟨h.hid,h.hf,by have:=h.hn;simp only [o0,l8] at this ⊢;omega,h.fok,h.fpw,fun x hx=>by
  rcases List.mem_append.1 hx with hx | hx
  ·exact h.nok x hx
  ·rw [List.mem_singleton.1 hx]
   unfold a7j
   rw [b8 h0,b8 h1,show D0 [121,101,97,114]=true from by decide];rfl,List.pairwise_append.2 ⟨h.npw,List.pairwise_singleton _ _,fun x hx y hy=>by
  rw [List.mem_singleton.1 hy]
  unfold a74
  rw [h.nst (by omega) x hx]
  exact(by decide :D2 [114,97,116,101] [121,101,97,114]=true)⟩,h.fst,fun q=>by omega⟩
theorem DG.ok {id:Int}{d:A1}(h:DG id 2 2 d)(h0:1≤id)(h1:id≤9999):a5q d=true:=by
 have a1:=h.hf
 have a2:=h.hn
 have a3:=h.hid
 unfold a5q
 rw [c0A h.fok h.fpw,c0A h.nok h.npw,b8 (show 1≤d.Id by omega),b8 (show d.Id≤9999 by omega),b8 (by omega),b8 (by omega)];rfl
theorem e0e (F:Nat)(r:z7)(id:Int)(hr:b6l r 900000)(hF:20≤F): ∃d p,a3L F r id=some (d,⟨r.b_,p⟩)∧b2n r p 300∧DG id 2 2 d:=by
 obtain⟨h1,h2,h3⟩:=hr
 have hm:10000≤maxLen:=by decide
 unfold a3L
 have e0:DG id 0 0 ⟨id,[],[]⟩:=⟨rfl,by simp,by simp,by simp,by simp,by simp,by simp,by simp,by simp⟩
 obtain⟨a1,ha1,_,_⟩:=O3 F r 6 ⟨h1,by omega,by omega⟩
 rw [ha1,a8]
 dsimp only
 -- the first field
 have s1: ∃d p,(cond (decide ((0:Int)<a1)) (Option.bind (W5 F ⟨r.b_,r.p_+1⟩) fun r58=>(Option.bind (O2 32 ([]:List Q6) ([(Q6.mk ([98,111,100,121]:r4) r58.1)]:List Q6)) fun x79=>(some (r58.2,(A1.mk id x79 ([]:List a5j)))))) (some ((⟨r.b_,r.p_+1⟩:z7),(A1.mk id ([]:List Q6) ([]:List a5j)))):Option (z7×A1))=some (⟨r.b_,p⟩,d)∧b2n r p 101∧DG id 1 0 d:=by
  cases decide ((0:Int)<a1)
  ·exact⟨_,_,rfl,⟨by omega,by omega⟩,e0.more (by omega) (by omega)⟩
  ·obtain⟨s,p,hs,q0,q1,ql⟩:=c90 F ⟨r.b_,r.p_+1⟩ ⟨h1,by simp only;omega,by simp only;omega⟩ hF
   simp only at q0 q1
   rw [j4,hs,a8,H4 (by simp)]
   exact⟨_,_,rfl,⟨by omega,by omega⟩,e0.body _ ql⟩
 obtain⟨d1,p1,hs1,⟨q1,q2⟩,hd1⟩:=s1
 rw [hs1,a8]
 dsimp only
 obtain⟨a2,ha2,_,_⟩:=O3 F ⟨r.b_,p1⟩ 3 ⟨h1,by simp only;omega,by simp only;omega⟩
 rw [ha2,a8]
 dsimp only
 have s2: ∃d p,(cond (a2==(0:Int)) (Option.bind (W5 F ⟨r.b_,p1+1⟩) fun r144=>(Option.bind (O2 32 d1.Fields ([(Q6.mk ([116,105,116,108,101]:r4) r144.1)]:List Q6)) fun x165=>(some (r144.2,(A1.mk d1.Id x165 d1.Nums))))) (some ((⟨r.b_,p1+1⟩:z7),d1)):Option (z7×A1))=some (⟨r.b_,p⟩,d)∧b2n r p 202∧DG id 2 0 d:=by
  cases a2==(0:Int)
  ·exact⟨_,_,rfl,⟨by omega,by omega⟩,hd1.more (by omega) (by omega)⟩
  ·obtain⟨s,p,hs,w0,w1,wl⟩:=c90 F ⟨r.b_,p1+1⟩ ⟨h1,by simp only;omega,by simp only;omega⟩ hF
   simp only at w0 w1
   have:=hd1.hf
   rw [j4,hs,a8,H4 (by simp only [l8];omega)]
   exact⟨_,_,rfl,⟨by omega,by omega⟩,hd1.title _ wl⟩
 obtain⟨d2,p2,hs2,⟨q3,q4⟩,hd2⟩:=s2
 rw [hs2,a8]
 dsimp only
 obtain⟨a3,ha3,_,_⟩:=O3 F ⟨r.b_,p2⟩ 3 ⟨h1,by simp only;omega,by simp only;omega⟩
 rw [ha3,a8]
 dsimp only
 have s3: ∃d p,(cond (decide ((0:Int)<a3)) (Option.bind (z2 F ⟨r.b_,p2+1⟩ (4:Int)) fun r224=>(Option.bind (O2 24 d2.Nums ([(a5j.mk ([114,97,116,101]:r4) r224.1)]:List a5j)) fun x245=>(some (r224.2,(A1.mk d2.Id d2.Fields x245))))) (some ((⟨r.b_,p2+1⟩:z7),d2)):Option (z7×A1))=some (⟨r.b_,p⟩,d)∧b2n r p 204∧DG id 2 1 d:=by
  cases decide ((0:Int)<a3)
  ·exact⟨_,_,rfl,⟨by omega,by omega⟩,hd2.more (by omega) (by omega)⟩
  ·obtain⟨x,hx,x0,x1⟩:=O3 F ⟨r.b_,p2+1⟩ 4 ⟨h1,by simp only;omega,by simp only;omega⟩
   have:=hd2.hn
   rw [j4,hx,a8,H4 (by simp only [l8];omega)]
   exact⟨_,p2+1+1,rfl,⟨by omega,by omega⟩,hd2.rate _ x0 (by have:=x1 (by decide);omega)⟩
 obtain⟨d3,p3,hs3,⟨q5,q6⟩,hd3⟩:=s3
 rw [hs3,a8]
 dsimp only
 obtain⟨a4,ha4,_,_⟩:=O3 F ⟨r.b_,p3⟩ 3 ⟨h1,by simp only;omega,by simp only;omega⟩
 rw [ha4,a8]
 dsimp only
 cases a4==(0:Int)
 ·exact⟨_,_,rfl,⟨by omega,by omega⟩,hd3.more (by omega) (by omega)⟩
 ·obtain⟨x,hx,x0,x1⟩:=O3 F ⟨r.b_,p3+1⟩ 30 ⟨h1,by simp only;omega,by simp only;omega⟩
  have:=hd3.hn
  rw [j4,hx,a8,H4 (by simp only [l8];omega)]
  exact⟨_,p3+1+1,rfl,⟨by omega,by omega⟩,hd3.year _ (by rw [C5 ⟨by omega,by have:=x1 (by decide);omega⟩];omega) (by rw [C5 ⟨by omega,by have:=x1 (by decide);omega⟩];have:=x1 (by decide);omega)⟩
structure DsG (k:Nat)(id:Int)(ds:List A1):Prop where
 len:ds.length≤k
 i0:0≤id
 i1:id≤3*(k:Int)
 ok: ∀d∈ds,a5q d=true
 le: ∀d∈ds,d.Id≤id
 up:ds.Pairwise fun a b=>b1V a b=true
theorem DsG.snoc {k:Nat}{id id':Int}{ds:List A1}{d:A1}(h:DsG k id ds)(h0:id<id')(h1:id'≤id+3)(hd:DG id' 2 2 d)(hk:k≤100:=by omega):DsG (k+1) id' (ds++[d]):=by
 have e0:=h.i0
 have e1:=h.i1
 have e2:=hd.hid
 refine⟨by have:=h.len;simp only [o0,l8];omega,by omega,by omega,fun x hx=>?_,fun x hx=>?_,List.pairwise_append.2 ⟨h.up,List.pairwise_singleton _ _,fun x hx y hy=>?_⟩⟩
 ·rcases List.mem_append.1 hx with hx | hx
  ·exact h.ok x hx
  ·rw [List.mem_singleton.1 hx];exact hd.ok (by omega) (by omega)
 ·rcases List.mem_append.1 hx with hx | hx
  ·have:=h.le x hx;omega
  ·rw [List.mem_singleton.1 hx];omega
 ·rw [List.mem_singleton.1 hy]
  have:=h.le x hx
  exact b8 (by omega)
theorem DsG.docs {k:Nat}{id:Int}{ds:List A1}(h:DsG k id ds)(hk:k≤16):a1I ds=true:=by
 have:=h.len
 unfold a1I
 rw [c0A h.ok h.up,b8 (by omega)];rfl
theorem c98 (F:Nat)(r:z7)(hr:b6l r 100000)(hF:20≤F): ∃ds p,a2T F r=some (ds,⟨r.b_,p⟩)∧b2n r p 2000∧a1I ds=true:=by
 obtain⟨h1,h2,h3⟩:=hr
 unfold a2T
 obtain⟨n,hn,n0,n1⟩:=O3 F r 6 ⟨h1,h2,by omega⟩
 have n1:=n1 (by decide)
 rw [hn,a8]
 dsimp only
 generalize hf:(fun (s44:(List A1)×Int×Int×z7)=>_:(List A1)×Int×Int×z7→Option (((List A1)×Int×Int×z7)⊕((List A1)×z7)))=f
 have key: ∀(k:Nat) (ds:List A1) (id p:Int) (F:Nat),k+1≤F→0≤p→p+301*k≤800000→DsG (5-k) id ds→k≤5→∃ds' p',y2 f F (ds,id,(k:Int),⟨r.b_,p⟩)=some (ds',⟨r.b_,p'⟩)∧p≤p'∧p'≤p+301*k∧∃id',DsG 5 id' ds':=by
  intro k
  induction k with
  | zero=>
   intro ds id p F hF _ _ hd _
   obtain⟨F,rfl⟩: ∃G,F=G+1:=⟨F-1,by omega⟩
   rw [y2]
   subst hf
   exact⟨ds,p,rfl,by omega,by omega,_,hd⟩
  | succ k ih=>
   intro ds id p F' hF' p0 p1 hs hk
   obtain⟨F',rfl⟩: ∃G,F'=G+1:=⟨F'-1,by omega⟩
   obtain⟨a,ha,a0,a1⟩:=O3 F ⟨r.b_,p⟩ 3 ⟨h1,p0,by simp only;omega⟩
   obtain⟨d,q,hdq,⟨q0,q1⟩,hdd⟩:=e0e F ⟨r.b_,p+1⟩ (z8 (z8 (id+1)+a)) ⟨h1,by simp only;omega,by simp only;omega⟩ hF
   simp only at q0 q1
   have hs1:=hs.len
   have a1:=a1 (by decide)
   have hid0:=hs.i0
   have hid1:=hs.i1
   have eid:z8 (z8 (id+1)+a)=id+1+a:=by rw [C5 (n:=id+1) ⟨by omega,by omega⟩,C5 ⟨by omega,by omega⟩]
   have hstep:f (ds,id,((k+1:Nat):Int),⟨r.b_,p⟩)=some (.inl (ds++[d],z8 (z8 (id+1)+a),(k:Int),⟨r.b_,q⟩)):=by
    rw [←hf]
    dsimp only
    have c3:z8 (((k+1:Nat):Int)-1)=(k:Int):=by rw [C5 ⟨by omega,by omega⟩];omega
    rw [b8 (by omega),j4,ha,a8]
    dsimp only
    rw [hdq,a8,H4 (by simp only [l8];omega),a8,c3]
   rw [y2,hstep]
   simp only [a8,Sum.elim_inl]
   obtain⟨ws',p',hw,a1,a2,a3⟩:=ih (ds++[d]) (z8 (z8 (id+1)+a)) q F' (by omega) (by omega) (by omega) (by
    rw [eid] at hdd ⊢
    have:=hs.snoc (id':=id+1+a) (by omega) (by omega) hdd
    rwa [show 5-(k+1)+1=5-k by omega] at this) (by omega)
   exact⟨ws',p',hw,by omega,by omega,a3⟩
 obtain⟨k,rfl⟩:=Int.eq_ofNat_of_zero_le n0
 obtain⟨s',p',hw,a1,a2,a3⟩:=key k [] 0 (r.p_+1) F (by omega) (by omega) (by omega) ⟨by simp,by omega,by omega,by simp,by simp,by simp⟩ (by omega)
 rw [hw]
 obtain⟨_,a3⟩:=a3
 exact⟨s',p',rfl,⟨by omega,by omega⟩,a3.docs (by omega)⟩
theorem e0i (F:Nat)(r:z7)(hr:b6l r 1000)(hF:200000<F): ∃c docs p,a3N F r=some (c,a1F c docs,⟨r.b_,p⟩)∧b2n r p 2003∧a4J c∧X3 docs∧a1I docs=true:=by
 obtain⟨h1,h2,h3⟩:=hr
 unfold a3N
 obtain⟨c,p,hc,⟨q1,q2⟩,hd⟩:=c2T F r ⟨h1,h2,by omega⟩
 obtain⟨docs,p',hdc,⟨q3,q4⟩,hdr⟩:=c2W F ⟨r.b_,p⟩ ⟨h1,by simp only;omega,by simp only;omega⟩ (by omega)
 obtain⟨docs2,p2,hdc2,_,hdr2⟩:=c98 F ⟨r.b_,p⟩ ⟨h1,by simp only;omega,by simp only;omega⟩ (by omega)
 rw [hdc] at hdc2
 injection hdc2 with hdc2
 injection hdc2 with hdc2 _
 subst hdc2
 simp only at q3 q4
 rw [hc,a8]
 dsimp only
 rw [hdc,a8]
 dsimp only
 rw [b7R F c docs hd.good (hdr.fit (by omega)) hF]
 exact⟨c,docs,p',rfl,⟨by omega,by omega⟩,hd,hdr.fit (by omega),hdr2⟩
theorem c8K {c:u6}{docs:List A1}(h:a1I docs=true):(a1F c docs).Entries.length≤7680:=(a8L h).1
theorem b1S {c:u6}{docs:List A1}(hd:a4J c)(h:a1I docs=true): ∀e∈(a1F c docs).Entries,e.Posts.length≤10000∧(∀p∈e.Posts,p.At.length≤1000)∧e.Term.length≤100:=fun e he=>by
 have hw:=O4 (a9R (c9M hd.good h) he)
 have hfit:=((a8L (c:=c) h).2 e he).1
 refine⟨by omega,fun p hp=>?_,by omega⟩
 unfold a1F at he
 obtain⟨n,_,hm⟩:=List.mem_flatMap.1 he
 obtain⟨t,ht,rfl⟩:=List.mem_map.1 hm
 unfold O5 at hp
 obtain⟨d,hdm,hp⟩:=List.mem_flatMap.1 hp
 unfold H6 at hp
 have h1:=b9i (c:=c) (d:=d) n t
 have h2:=b7Y (c:=c) (a7n ((a4s h).2 d hdm) n)
 split at hp
 ·rw [List.mem_singleton.1 hp]
  simp only
  omega
 ·cases hp
theorem c9E {c:u6}{docs:List A1}(hd:a4J c)(hf:X3 docs)(h:a1I docs=true):b5u c (a1F c docs):=
 ⟨hd.good,hd.fit,(a8L h).le (by omega),fun e he=>(b1S hd h e he).2.1,(a0Q h).1,fun e he=>(b1S hd h e he).2.2,hf⟩
theorem b5u.docs' {c:u6}{s:A5}(h:b5u c s){ds:List A1}(h1:ds.length≤16)(h2:X3 ds):b5u c ⟨ds,s.Entries⟩:=⟨h.conf,h.cfit,h.fit,h.at1,h1,h.term,h2⟩
theorem b5u.more {c:u6}{s:A5}(h:b5u c s){es:List C0}(h1: ∀e∈es,e.Posts.length≤10000∧(∀p∈e.Posts,p.At.length≤1000)∧e.Term.length≤100)(h2:es.length≤10000):b5u c ⟨s.Docs,es⟩:=
 ⟨h.conf,h.cfit,⟨h2,fun e he=>⟨(h1 e he).1,fun p hp=>by have:=(h1 e he).2.1 p hp;omega⟩⟩,fun e he=>(h1 e he).2.1,h.few,fun e he=>(h1 e he).2.2,h.docs⟩
theorem c9T (F:Nat)(r:z7)(hr:b6l r 1000)(hF:200000<F): ∃c s p,S5 F r=some (c,s,⟨r.b_,p⟩)∧b2n r p 2005∧b5u c s:=by
 obtain⟨h1,h2,h3⟩:=hr
 unfold S5
 obtain⟨c,docs,p,hs,⟨q1,q2⟩,hd,hf,hdk⟩:=e0i F r ⟨h1,h2,h3⟩ hF
 have hel:=b6F (c:=c) hf
 have hb:=c9E hd hf hdk
 have hfl:=hb.fit.1
 rw [hs,a8]
 dsimp only
 by_cases h0:(0:Int)<((a1F c docs).Entries.length:Int)
 ·obtain⟨i,hi,i0,i1⟩:=O3 F ⟨r.b_,p⟩ ((a1F c docs).Entries.length:Int) ⟨h1,by simp only;omega,by simp only;omega⟩
  obtain⟨x,hx,_,_⟩:=O3 F ⟨r.b_,p+1⟩ 16 ⟨h1,by simp only;omega,by simp only;omega⟩
  obtain⟨e,he⟩:=b21 i0 (i1 (by omega))
  rw [b8 h0,j4,hi,a8]
  dsimp only
  rw [hx,a8]
  dsimp only
  cases x==(0:Int)
  ·cases x==(1:Int)
   ·cases x==(2:Int)
    ·exact⟨_,_,_,rfl,⟨by omega,by omega⟩,hb⟩
    ·have hne:1≤docs.length:=by
      rcases Nat.eq_zero_or_pos docs.length with h | h
      ·rw [List.eq_nil_of_length_eq_zero h] at h0
       simp [a1F,a0E] at h0
      ·exact h
     rw [i6,i6,j4,show (1:Int)=((1:Nat):Int) from rfl,show (a1F c docs).Docs=docs from rfl,a9e hne,a8]
     exact⟨_,_,_,rfl,⟨by omega,by omega⟩,hb.docs' (by have:=hb.few;simp only [List.length_drop];exact Nat.le_trans (Nat.sub_le _ _) this) ⟨by have:=hf.few;simp only [List.length_drop];omega,fun d hm=>hf.doc d (List.mem_of_mem_drop hm)⟩⟩
   ·rw [i6,j4,he,a8,H4 (by simp only [l8];omega),a8]
    exact⟨_,_,_,rfl,⟨by omega,by omega⟩,hb.more (fun y hy=>by
     rcases List.mem_append.1 hy with hy | hy
     ·exact b1S hd hdk y hy
     ·rw [List.mem_singleton.1 hy];exact b1S hd hdk e (n5 (a3n he).2.2)) (by have:=c8K (c:=c) hdk;simp only [o0,l8];omega)⟩
  ·rw [j4,he,a8]
   exact⟨_,_,_,rfl,⟨by omega,by omega⟩,hb.more (fun y hy=>by
    rcases List.mem_or_eq_of_mem_set hy with hy | rfl
    ·exact b1S hd hdk y hy
    ·have:=b1S hd hdk e (n5 (a3n he).2.2)
     exact⟨this.1,this.2.1,(by decide :([122,122,122]:r4).length≤100)⟩) (by have:=c8K (c:=c) hdk;simp only [List.length_set];omega)⟩
 ·rw [c6 h0,i6]
  exact⟨_,_,_,rfl,⟨by omega,by omega⟩,hb⟩
theorem c7v (F:Nat)(code:List UInt8)(hF:1000000200<F): ∃c s q m a,k5 F code=some (c,s,q,m,a)∧a1K 100 c∧X3 s.Docs∧I3 3 q∧m≤16:=by
 unfold k5
 obtain⟨r,hr,h1,h2⟩:=b0Q F code
 rw [hr,a8]
 obtain⟨c,s,p,hs,⟨p0,p1⟩,ht⟩:=c9T F r ⟨h1,by omega,by omega⟩ (by omega)
 rw [hs,a8]
 dsimp only
 have hdq:=a80 (d:=2) (by omega)
 obtain⟨q,p',hq,⟨q0,q1⟩,hg⟩:=a6c 2 F ⟨r.b_,p⟩ (by omega) (by omega) h1 (by simp only;omega) (by simp only;omega)
 simp only at q0 q1
 rw [show ((2+1:Nat):Int)=3 from rfl] at hq
 rw [hq,a8]
 dsimp only
 obtain⟨m,hm,hmo⟩:=b8r F ⟨r.b_,p'⟩ [1,2,3,16,0] ⟨h1,by simp only;omega,by simp only;omega⟩ (by simp)
 have hm16:m≤16:=(by decide : ∀m∈([1,2,3,16,0]:List Int),m≤16) m hm
 obtain⟨L,hL,hl⟩:=c9W F ht hg (by omega) (by omega)
 rw [hmo,a8]
 dsimp only
 rw [hL,a8]
 have far: ∀pp:Int,0≤pp→pp≤200000→∃a,(Option.bind (z2 F ⟨r.b_,pp⟩ 9) fun r244=>(Option.bind (V0 F r244.2 ([0,100,2000,99999]:List Int)) fun r265=>(some (c,s,q,m,(E3.mk r244.1 r265.1)))))=some (c,s,q,m,a):=fun pp a0 a1=>by
  obtain⟨x,hx,_,_⟩:=O3 F ⟨r.b_,pp⟩ 9 ⟨h1,a0,by simp only;omega⟩
  obtain⟨y,_,hy⟩:=b8r F ⟨r.b_,pp+1⟩ [0,100,2000,99999] ⟨h1,by simp only;omega,by simp only;omega⟩ (by simp)
  rw [hx,a8]
  dsimp only
  rw [hy]
  exact⟨_,rfl⟩
 have fin: ∀o:Option (u6×A5×q7×Int×E3),(∃a,o=some (c,s,q,m,a))→∃c s q m a,o=some (c,s,q,m,a)∧a1K 100 c∧X3 s.Docs∧I3 3 q∧m≤16:=fun o ⟨a,e⟩=>⟨c,s,q,m,a,e,ht.cfit,ht.docs,hg,hm16⟩
 refine fin _ ?_
 by_cases h0:0<L.length
 ·obtain⟨x,hx,_,_⟩:=O3 F ⟨r.b_,p'+1⟩ 4 ⟨h1,by simp only;omega,by simp only;omega⟩
  rw [b8 (by omega),j4,hx,a8,a8]
  dsimp only
  cases decide (0<x) with
  | false=>
   rw [i6]
   exact far _ (by omega) (by omega)
  | true=>
   obtain⟨y,hy,y0,y1⟩:=O3 F ⟨r.b_,p'+1+1⟩ (L.length:Int) ⟨h1,by simp only;omega,by simp only;omega⟩
   obtain⟨e,he⟩:=b21 y0 (y1 (by omega))
   rw [j4,hy,a8]
   dsimp only
   rw [he]
   exact⟨_,rfl⟩
 ·rw [c6 (by omega),i6,a8]
  dsimp only
  rw [i6]
  exact far _ (by omega) (by omega)
theorem c8w (F:Nat){c:u6}{s:A5}{d:Nat}{q:q7}(m:Int)(a:E3)(hg:I3 d q)(hd:d≤4)(hs:X3 s.Docs)(hc:a1K 100 c)(hF:1000000100<F):k6 F c s q m a=some (c8J c s d q (P1 a) m):=by
 unfold k6 c8J
 rw [a9a F 100 c s hs hc (by omega) (by omega),a8]
 cases ho:G9 c s with
 | false=>
  have e:G6 c s d q=[]:=by
   unfold G6
   rw [if_neg (by rw [ho];decide)]
  rw [e]
  show some []=_
  split
  ·rw [show I2 (List.filter (P1 a) [])=[] from rfl,List.take_nil]
  ·rfl
 | true=>
  have hfew:=a2D ho
  rw [l7,i6,c4c F hg hd (by omega),a8,l7,i6,c93,a8]
  cases hm:decide (1≤m)&&decide (m≤16) with
  | false=>rfl
  | true=>
  simp only [q8,decide_eq_true_eq] at hm
  obtain⟨k,rfl⟩: ∃k:Nat,m=(k:Int):=⟨m.toNat,by omega⟩
  rw [l7,a8,i6,if_pos rfl,Int.toNat_natCast]
  rw [c9F F ho d q (P1 a) k (by omega) (by omega) (fun i hi=>?_) (fun x=>?_)]
  ·rfl
  ·have hx:s.Docs[i]∈s.Docs:=List.getElem_mem hi
   dsimp only
   rw [b8 (by omega),j4,T5 hi,a8,a8,a7w c s s.Docs[i] ho hx hc (by have:=(hs.doc _ hx).nums;omega) hg hd F (by omega),a8,a8,c2o,a8,y5 (by omega)]
   show ((cond (decide (0<C2 c s d q s.Docs[i])) (some (P1 a (c8m c s d q s.Docs[i]))) (some false)).bind _)=_
   cases decide (0<C2 c s d q s.Docs[i]) with
   | false=>rfl
   | true=>
    cases P1 a (c8m c s d q s.Docs[i])<;>rfl
  ·dsimp only
   rw [c6 (by omega)];rfl
theorem c8H (code:List UInt8): ∃F,k8 F code=some true:=by
 refine⟨2000000000,?_⟩
 generalize hF:2000000000=F
 unfold k8
 cases decide ((1048576:Int)<(code.length:Int))
 case true=>rfl
 obtain⟨c,s,q,m,a,h1,hc,hs,hq,hm⟩:=c7v F code (by omega)
 have hl:=hs.few
 have hst:=hc.stops.1
 have hlen:=c9P c s 3 q (P1 a) m
 rw [i6,h1,a8]
 dsimp only
 rw [c8p F m a hq (by omega) (by omega) (by omega) (by omega),a8,c8w F m a hq (by omega) hs hc (by omega),a8,a2r F _ (by omega) (by omega),a8,l7,i6,a1T F c s (by omega) (by omega) (by omega),a8,a8,a2r F _ (by omega) (by omega),a8]
 cases ho:G9 c s with
 | false=>rfl
 | true=>
 rw [l7,i6]
 by_cases a3:m<1
 ·rw [b8 a3];rfl
 have hL:=a1y c s 3 q
 have hLs:=a4e (G6 c s 3 q)
 rw [c6 a3,a8,i6,a4a F 16 hq (by omega) (by omega) (by omega) (by omega),a8,c96]
 have e:c8J c s 3 q (P1 a) m=((I2 (G6 c s 3 q)).filter (P1 a)).take m.toNat:=c9O (by omega) hm
 rw [c9V F (P1 a) m.toNat (I2 (G6 c s 3 q)) (by omega) (by omega) (fun i x acc hx ha hb=>?_) (fun i acc ha hi=>?_) (fun acc=>?_),a8,a8,←e,a2r F _ (by omega) (by omega),a8]
 ·have hi:=(i4.1 hx).1
  dsimp only
  rw [b8 (by omega),j4,b8 (by omega),a8,j4,n8,hx,a8,c1n,a8]
  cases P1 a x with
  | true=>rw [j4,a8,H4 (by simp only [l8];omega),a8,if_pos rfl,y5 (by omega)]
  | false=>rw [i6,if_neg (by decide),List.append_nil,y5 (by omega)]
 ·dsimp only
  rw [c6 (show ¬((acc.length:Int)<m) by omega)]
  cases decide ((i:Int)<((I2 (G6 c s 3 q)).length:Int))<;>rfl
 ·dsimp only
  rw [c6 (by omega)];rfl
end Go.Fk
