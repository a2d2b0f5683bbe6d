/-
  A phrase that may be looser is worth no less, and stands where both words do. The law, on the models.
-/
import Derived.Test.YtnloenhmkdpgeaaGreatDoorModelLScorePhrase
import Derived.Test.YtnloenhmkdpgeaaGreatDoorLawTermS
import Derived.Test.YtnloenhmkdpgeaaGreatDoorLawScoreT
set_option linter.unusedVariables false
namespace Go.Fk
open Go
theorem c0r {a b:Nat}(hb:0<b)(h:b≤a*1000):0<a9z a b:=by
 unfold a9z
 have hg:0<Nat.gcd a b:=Nat.gcd_pos_of_pos_right a hb
 refine Nat.div_pos ?_ (Nat.div_pos (Nat.gcd_le_right a hb) hg)
 have h1:b/Nat.gcd a b≤a*1000/Nat.gcd a b:=Nat.div_le_div_right h
 have h2:a*1000/Nat.gcd a b=a/Nat.gcd a b*1000:=by
  rw [Nat.mul_comm a 1000,Nat.mul_div_assoc 1000 (Nat.gcd_dvd_left a b),Nat.mul_comm]
 omega
theorem c0H {tf long total docs df:Nat}(h:a2z tf long total docs df):0<b54 tf long total docs df:=by
 obtain⟨h1,h2,h3,h4,h5⟩:=h
 have hd:=(a7m ⟨h1,h2,h3,h4,h5⟩).1
 refine c0r hd ?_
 unfold upN a7C
 have e1:22*tf*1≤22*tf*(a2B 5 df docs+1):=Nat.mul_le_mul_left _ (by omega)
 have e2:9*long*docs/total≤9*docs:=by
  apply Nat.div_le_of_le_mul
  have:long*(9*docs)≤total*(9*docs):=Nat.mul_le_mul_right _ h3.1
  have e:9*long*docs=long*(9*docs):=by rw [Nat.mul_comm 9 long,Nat.mul_assoc]
  omega
 generalize 22*tf*(a2B 5 df docs+1)=u at *
 generalize 9*long*docs/total=v at *
 omega
theorem b30 {c:u6}{s:A5}(ho:G9 c s=true){n t:r4}{id:Int}(h:(atS s n t id).length≠0):0<H2 c s n t id:=by
 obtain⟨_,h2,h3⟩:=a0w ho
 have hsc:a2z (atS s n t id).length (M8 c s.Docs n id) (a7i c s.Docs n) s.Docs.length (G3 s n t).length:=by
  have:=a7a (c:=c) h2 (n:=n) (t:=t) (id:=id)
  rw [←h3] at this
  exact this h
 unfold H2
 rw [if_neg h]
 exact c0H hsc
theorem b7b {A B:List Int}(ha:upQ A=true)(hb:upQ B=true){m:Int}(h0:0≤m)(h5:m≤5):a5g [A,B] m=A.filter fun p=>Y7 [B] p (p+1+m):=by
 have h:([A,B].all upQ&&(decide (1≤(([A,B].length:Nat):Int))&&decide ((([A,B].length:Nat):Int)≤6))&&(decide (0≤m)&&decide (m≤5)))=true:=by
  rw [List.all_cons,ha,List.all_cons,hb,b8 h0,b8 h5];rfl
 unfold a5g
 rw [if_pos h]
 show A.filter (fun p=>Y7 [B] p (p+((2:Nat):Int)-1+m))=_
 congr 1
 funext p
 rw [show p+((2:Nat):Int)-1+m=p+1+m by omega]
theorem b95 {B:List Int}{p b b':Int}(hb:b≤b')(h:Y7 [B] p b=true):Y7 [B] p b'=true:=by
 change (B.any fun x=>decide (p<x)&&decide (x≤b))=true at h
 show (B.any fun x=>decide (p<x)&&decide (x≤b'))=true
 obtain⟨x,hx,h1⟩:=List.any_eq_true.1 h
 simp only [q8,decide_eq_true_eq] at h1
 exact List.any_eq_true.2 ⟨x,hx,by rw [b8 h1.1,b8 (by omega :x≤b')];rfl⟩
theorem c0L (A B:List Int){m m':Int}(h:m≤m'):(A.filter fun p=>Y7 [B] p (p+1+m)).length≤(A.filter fun p=>Y7 [B] p (p+1+m')).length:=by
 rw [←List.countP_eq_length_filter,←List.countP_eq_length_filter]
 exact List.countP_mono_left fun x _ hx=>b95 (by omega) hx
theorem a7u {c:u6}{s:A5}(ho:G9 c s=true)(hs:c.Syns=[])(f:r4){a b:r4}(ha:a∈W8)(hb:b∈W8)(h1:(Y8 c a==[])=false)(h2:(Y8 c b==[])=false){m:Int}(m0:0≤m)(m5:m≤5)(id:Int):
  a0X c s f [a,b] m id=c0s ((atS s f (Y8 c a) id).filter fun p=>Y7 [atS s f (Y8 c b) id] p (p+1+m)).length*(H2 c s f (Y8 c a) id+H2 c s f (Y8 c b) id):=by
 obtain⟨a1,a2⟩:=b9I hs ha h1
 obtain⟨b1,b2⟩:=b9I hs hb h2
 unfold a0X
 rw [c08 hs ha hb a1 b1,a2,b2]
 dsimp only
 rw [c0q ho,b7b (c3L ho hs f (a8U a ha).2.2.1 id) (c3L ho hs f (a8U b hb).2.2.1 id) m0 m5,if_neg (by simp)]
 show _*(H2 c s f a id+(H2 c s f b id+0))=_
 rw [Nat.add_zero];rfl
theorem c0u {a b:Nat}(h:a≤b):c0s a≤c0s b:=by unfold c0s;split<;>split<;>omega
theorem b51 {c:u6}{s:A5}(ho:G9 c s=true)(hs:c.Syns=[])(f:r4){a b:r4}(ha:a∈W8)(hb:b∈W8)(h1:(Y8 c a==[])=false)(h2:(Y8 c b==[])=false){m:Int}(m0:0≤m)(m5:m+1≤5)(id:Int):
  a0X c s f [a,b] m id≤a0X c s f [a,b] (m+1) id:=by
 rw [a7u ho hs f ha hb h1 h2 m0 (by omega),a7u ho hs f ha hb h1 h2 (by omega) m5]
 exact Nat.mul_le_mul_right _ (c0u (c0L _ _ (by omega)))
theorem b50 {c:u6}{s:A5}(ho:G9 c s=true)(hs:c.Syns=[])(f:r4){a b:r4}(ha:a∈W8)(hb:b∈W8)(h1:(Y8 c a==[])=false)(h2:(Y8 c b==[])=false){m:Int}(m0:0≤m)(m5:m≤5){id:Int}(h:0<a0X c s f [a,b] m id):
  0<H2 c s f (Y8 c a) id∧0<H2 c s f (Y8 c b) id:=by
 rw [a7u ho hs f ha hb h1 h2 m0 m5] at h
 have h3:0<c0s ((atS s f (Y8 c a) id).filter fun p=>Y7 [atS s f (Y8 c b) id] p (p+1+m)).length:=Nat.pos_of_mul_pos_right h
 have h4:0<((atS s f (Y8 c a) id).filter fun p=>Y7 [atS s f (Y8 c b) id] p (p+1+m)).length:=by
  unfold c0s at h3
  split at h3<;>omega
 obtain⟨p,hp⟩:=List.exists_mem_of_length_pos h4
 obtain⟨hp1,hp2⟩:=List.mem_filter.1 hp
 change ((atS s f (Y8 c b) id).any fun x=>decide (p<x)&&decide (x≤p+1+m))=true at hp2
 obtain⟨x,hx,_⟩:=List.any_eq_true.1 hp2
 exact⟨b30 ho (Nat.pos_iff_ne_zero.1 (List.length_pos_of_mem hp1)),b30 ho (Nat.pos_iff_ne_zero.1 (List.length_pos_of_mem hx))⟩
theorem b8o (n:Nat)(h:n≤1000):b0A 8 (n:Int) (0:Int)=some (List.replicate n 0):=by
 unfold b0A
 rw [if_pos ⟨by omega,by omega⟩,Int.toNat_natCast]
theorem c1P {α:Type}{A C:List α}{x:α}{i:Nat}(h:A.length=i):v8 (A++x::C) (i:Int)=some x:=by
 rw [n8,List.getElem?_append_right (by omega),h,Nat.sub_self];rfl
theorem c3A {α:Type}{A C:List α}{x y:α}{i:Nat}(h:A.length=i):List.set (A++x::C) ((i:Int)).toNat y=(A++[y])++C:=by
 rw [Int.toNat_natCast,List.set_append_right _ _ (by omega),h,Nat.sub_self,List.append_assoc];rfl
theorem b2q (code more:List UInt8): ∃F,a0M F code more=some true:=by
 refine⟨2000000000,?_⟩
 generalize hF:2000000000=F
 unfold a0M
 cases decide ((1048576:Int)<(code.length:Int))
 case true=>rfl
 cases decide ((1048576:Int)<(more.length:Int))
 case true=>rfl
 obtain⟨c,s,n,a,h1,hc,hs,hn,ha⟩:=a49 F code (by omega)
 obtain⟨c',s',n',b,h2,_,_,_,hb⟩:=a49 F more (by omega)
 have hl:=hs.few
 have hst:=hc.stops.1
 rw [i6,a8,i6,h1,a8,h2,a8]
 dsimp only
 have hspec:R4 F c s=some (G9 c s):=by
  unfold R4
  rw [a9a F 100 c s hs hc (by omega) (by omega)];rfl
 rw [a1T F c s (by omega) (by omega) (by omega),a8,hspec,a7p F c a (by omega) (by omega),a7p F c b (by omega) (by omega)]
 have hsame:((some (G9 c s)).bind fun r155=>((some (G9 c s)).bind fun r162=>(some (r155==r162))))=some true:=by
  rw [a8,a8,beq_self_eq_true]
 rw [hsame]
 cases ho:G9 c s with
 | false=>rfl
 | true=>
 rw [l7,i6,a5w hn,i6]
 cases hsy:decide ((0:Int)<(c.Syns.length:Int)) with
 | true=>rfl
 | false=>
 have hsyn:c.Syns=[]:=List.length_eq_zero_iff.1 (by have:=of_decide_eq_false hsy;omega)
 rw [i6,a8]
 cases h3:Y8 c a==[] with
 | true=>rfl
 | false=>
 rw [i6,a8]
 cases h4:Y8 c b==[] with
 | true=>rfl
 | false=>
 have la:a3D ⟨2,n,[a],0,0,[]⟩:=.term hn (a8U a ha).1
 have lb:a3D ⟨2,n,[b],0,0,[]⟩:=.term hn (a8U b hb).1
 have lp: ∀m:Nat,m≤5→a3D ⟨3,n,[a,b],(m:Int),0,[]⟩:=fun m hm=>.phrase hn (by simp) (by simp) (fun w hw=>by
  rcases List.mem_cons.1 hw with rfl | hw
  ·exact(a8U _ ha).1
  ·rw [List.mem_singleton.1 hw];exact(a8U _ hb).1) (by omega) (by omega)
 have lab:I3 2 ⟨7,[],[],0,0,[⟨2,n,[a],0,0,[]⟩,⟨2,n,[b],0,0,[]⟩]⟩:=.and (by simp) (by simp) (c0B (.leaf la) (.leaf lb))
 rw [a8,i6,a23 F lab (by omega) (by omega) (by omega) (by omega),a8,b8o s.Docs.length (by omega),a8]
 have hflen:((G6 c s 2 ⟨7,[],[],0,0,[⟨2,n,[a],0,0,[]⟩,⟨2,n,[b],0,0,[]⟩]⟩).map (·.Doc)).length≤10000:=by
  rw [List.length_map]
  have:=a1y c s 2 ⟨7,[],[],0,0,[⟨2,n,[a],0,0,[]⟩,⟨2,n,[b],0,0,[]⟩]⟩
  omega
 have hfound: ∀x∈s.Docs,∀m:Nat,m≤5→0<a0X c s n [a,b] (m:Int) x.Id→((G6 c s 2 ⟨7,[],[],0,0,[⟨2,n,[a],0,0,[]⟩,⟨2,n,[b],0,0,[]⟩]⟩).map (·.Doc)).any (· ==x.Id)=true:=fun x hx m hm hp=>by
  obtain⟨p1,p2⟩:=b50 ho hsyn n ha hb h3 h4 (by omega) (by omega) hp
  have e:=(b7w (c:=c) (s:=s) (d:=1) (a:=⟨2,n,[a],0,0,[]⟩) (b:=⟨2,n,[b],0,0,[]⟩) x.Id ho).1
  rw [a86 la ho hx,a86 lb ho hx] at e
  have ea:b0y c s ⟨2,n,[a],0,0,[]⟩ x=((H2 c s n (Y8 c a) x.Id:Nat):Int):=rfl
  have eb:b0y c s ⟨2,n,[b],0,0,[]⟩ x=((H2 c s n (Y8 c b) x.Id:Nat):Int):=rfl
  rw [ea,eb,if_neg (by omega)] at e
  unfold L7 at e
  rw [if_pos ho,a5V ho hx] at e
  change C2 c s 2 _ x=_ at e
  unfold G6
  rw [if_pos ho]
  refine List.any_eq_true.2 ⟨x.Id,List.mem_map.2 ⟨⟨x.Id,C2 c s 2 ⟨7,[],[],0,0,[⟨2,n,[a],0,0,[]⟩,⟨2,n,[b],0,0,[]⟩]⟩ x⟩,List.mem_flatMap.2 ⟨x,hx,?_⟩,rfl⟩,beq_self_eq_true _⟩
  unfold a3T
  rw [b8 (by rw [e];omega),if_pos rfl]
  exact List.mem_singleton.2 rfl
 generalize (G6 c s 2 ⟨7,[],[],0,0,[⟨2,n,[a],0,0,[]⟩,⟨2,n,[b],0,0,[]⟩]⟩).map (·.Doc)=found at *
 -- what the documents are worth behind 'm' rounds
 let val:Nat→A1→Int:=fun m x=>match m with | 0=>0 | m+1=>((a0X c s n [a,b] (m:Int) x.Id:Nat):Int)
 have hval: ∀m x,val (m+1) x=((a0X c s n [a,b] (m:Int) x.Id:Nat):Int):=fun _ _=>rfl
 have hmono: ∀m,m≤5→∀x,val m x≤val (m+1) x:=fun m hm x=>by
  cases m with
  | zero=>rw [hval];show (0:Int)≤_;omega
  | succ m=>
   rw [hval,hval]
   have:=b51 ho hsyn n ha hb h3 h4 (m:=(m:Int)) (by omega) (by omega) x.Id
   rw [show (((m+1:Nat):Int))=(m:Int)+1 by omega]
   omega
 have hscore: ∀m:Nat,m≤5→∀x∈s.Docs,L7 c s 1 ⟨3,n,[a,b],(m:Int),0,[]⟩ x.Id=val (m+1) x:=fun m hm x hx=>by
  rw [a86 (lp m hm) ho hx];rfl
 have hinner: ∀m:Nat,m≤5→y2 (σ:=Int×(List Int)) (τ:=((List Int))⊕(Bool)) (fun (s277:Int×(List Int))=>(cond (decide (s277.1<(s.Docs.length:Int))) ((v8 s.Docs s277.1).bind fun x297=>((N5 F c s (q7.mk 3 n ([a,b]:List r4) (m:Int) 0 []) x297.Id).bind fun r315=>((((v8 s.Docs s277.1).bind fun x334=>((Q9 F c s (q7.mk 3 n ([a,b]:List r4) (m:Int) 0 []) x334.Id).bind fun r352=>(cond (!(r315==r352)) (some true) ((v8 s277.2 s277.1).bind fun x366=>(cond (decide (r315<x366)) (some true) (cond (decide (0<r315)) ((v8 s.Docs s277.1).bind fun x382=>((a1H F found x382.Id).bind fun r400=>(some (!r400)))) (some false))))))):Option Bool).bind fun o327=>(cond o327 (some (.inr (.inr false))) ((v8 s277.2 s277.1).bind fun x420=>(some (.inl ((z8 (s277.1+1)),(List.set s277.2 (s277.1).toNat r315))))))))) (some (.inr (.inl s277.2))))) F (0,s.Docs.map (val m))=some (.inl (s.Docs.map (val (m+1)))):=fun m hm=>by
  refine b3I (I7 (Post:=fun r:List Int⊕Bool=>r= .inl (s.Docs.map (val (m+1)))) (fun i (st:Int×List Int)=>st=((i:Int),(s.Docs.take i).map (val (m+1))++(s.Docs.drop i).map (val m))) s.Docs.length (fun i st hi e=>?_) (fun st e=>?_) s.Docs.length 0 (0,s.Docs.map (val m)) F (by omega) (by omega) rfl)
  ·subst e
   refine .inl ⟨_,?_,rfl⟩
   have hx:s.Docs[i]∈s.Docs:=List.getElem_mem hi
   have hlen:((s.Docs.take i).map (val (m+1))).length=i:=by rw [List.length_map,List.length_take];omega
   have hmid:(s.Docs.take i).map (val (m+1))++(s.Docs.drop i).map (val m)=(s.Docs.take i).map (val (m+1))++val m s.Docs[i]::(s.Docs.drop (i+1)).map (val m):=by
    rw [List.drop_eq_getElem_cons hi,List.map_cons]
   rw [hmid]
   dsimp only
   rw [b8 (by omega),j4,T5 hi,a8,a1U F (d:=1) _ (.leaf (lp m hm)) (by omega) (by omega) (by omega) (by omega),a8,a8,a5L F (d:=1) _ (.leaf (lp m hm)) (by omega) hs hc (by omega),a8,beq_self_eq_true,l7,i6,
    c1P hlen,a8,hscore m hm _ hx,c6 (by have:=hmono m hm s.Docs[i];omega),i6]
   have hcnd:(cond (decide (0<val (m+1) s.Docs[i])) ((some s.Docs[i]).bind fun x382=>((a1H F found x382.Id).bind fun r400=>(some (!r400)))) (some false))=some false:=by
    by_cases hp:0<val (m+1) s.Docs[i]
    ·rw [b8 hp,j4,a8,c4b F found _ hflen (by omega),a8,hfound _ hx m hm (by rw [hval] at hp;omega)];rfl
    ·rw [c6 hp];rfl
   rw [hcnd,a8,i6,a8,y5 (by omega),c3A hlen,List.take_succ_eq_append_getElem hi,List.map_append]
   rfl
  ·subst e
   refine⟨_,?_,rfl⟩
   dsimp only
   rw [c6 (by omega),i6,List.take_length,List.drop_length,List.map_nil,List.append_nil]
 have hrep:List.replicate s.Docs.length (0:Int)=s.Docs.map (val 0):=by
  show _=s.Docs.map fun _=>0
  rw [List.map_const']
 rw [hrep]
 have houter: ∀f:Int×List Int→Option ((Int×List Int)⊕(Unit⊕Bool)),(∀m:Nat,m≤5→f ((m:Int),s.Docs.map (val m))=some (.inl (((m+1:Nat):Int),s.Docs.map (val (m+1)))))→f ((6:Nat),s.Docs.map (val 6))=some (.inr (.inl ()))→y2 f F (0,s.Docs.map (val 0))=some (.inl ()):=fun f hf h0=>by
  refine b3I (I7 (Post:=fun r:Unit⊕Bool=>r= .inl ()) (fun i (st:Int×List Int)=>st=((i:Int),s.Docs.map (val i))) 6 (fun i st hi e=>?_) (fun st e=>?_) 6 0 (0,s.Docs.map (val 0)) F (by omega) (by omega) rfl)
  ·subst e
   exact .inl ⟨_,hf i (by omega),rfl⟩
  ·subst e
   exact⟨_,h0,rfl⟩
 rw [houter _ (fun m hm=>?_) ?_,a8]
 ·rfl
 ·rfl
 ·dsimp only
  rw [b8 (by omega),j4,hinner m hm,a8,y5 (by omega)]
  rfl
end Go.Fk
