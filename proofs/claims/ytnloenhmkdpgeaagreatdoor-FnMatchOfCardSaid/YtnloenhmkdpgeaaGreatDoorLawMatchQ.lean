/-
  What a question finds, of all questions. The law, on the models.
-/
import Derived.Test.YtnloenhmkdpgeaaGreatDoorModelLMatchOf
import Derived.Test.YtnloenhmkdpgeaaGreatDoorLawScoreT
import Derived.Test.YtnloenhmkdpgeaaGreatDoorLawOkQ
import Derived.Test.YtnloenhmkdpgeaaGreatDoorLawBase
set_option linter.unusedVariables false
namespace Go.Fk
open Go
theorem b3E {q:q7}(h:a3D q):q.Field.length≤12∧q.Words.length≤4∧(∀w∈q.Words,w.length≤12)∧q.Kids=[]:=by
 have one: ∀{p:r4},p.length≤12→∀w∈[p],w.length≤12:=fun hp w hw=>by rw [List.mem_singleton.1 hw];exact hp
 cases h with
 | all=>exact⟨by simp,by simp,fun w hw=>(by cases hw),rfl⟩
 | term hf hw=>exact⟨O4 hf,by simp,one (O4 hw),rfl⟩
 | phrase hf h1 h2 hw h3 h4=>exact⟨O4 hf,h2,fun w hm=>O4 (hw w hm),rfl⟩
 | near hf hw h1 h2=>exact⟨O4 hf,by simp,one (O4 hw),rfl⟩
 | glob hf hp hn=>
  refine⟨O4 hf,by simp,one ?_,rfl⟩
  simp only [a8c,q8,decide_eq_true_eq] at hp
  omega
 | range hf h1 h2 h3 h4=>exact⟨O4 hf,by simp,fun w hw=>(by cases hw),rfl⟩
structure c5m (q:q7):Prop where
 f:q.Field.length≤12
 w:q.Words.length≤4
 ws: ∀w∈q.Words,w.length≤12
 k:q.Kids.length≤4
theorem b4X {d:Nat}{q:q7}(h:I3 d q):c5m q:=by
 cases h with
 | leaf h=>
  obtain⟨h1,h2,h3,h4⟩:=b3E h
  exact⟨h1,h2,h3,by rw [h4];simp⟩
 | and h1 h2 h3=>exact⟨by simp,by simp,fun w hw=>(by cases hw),h2⟩
 | or h1 h2 h3=>exact⟨by simp,by simp,fun w hw=>(by cases hw),h2⟩
 | less h1 h2=>exact⟨by simp,by simp,fun w hw=>(by cases hw),by simp⟩
 | times h1 h2 h3=>exact⟨by simp,by simp,fun w hw=>(by cases hw),by simp⟩
theorem b4W: ∀{d:Nat} {q:q7},I3 d q→∀k∈q.Kids,∃e,I3 e k
 | 0,_,h,_,_=>by cases h
 | d+1,q,h,k,hk=>by
  cases h with
  | leaf h=>rw [(b3E h).2.2.2] at hk;cases hk
  | and h1 h2 h3=>exact⟨d,h3 k hk⟩
  | or h1 h2 h3=>exact⟨d,h3 k hk⟩
  | @less _ a b h1 h2=>
   rcases List.mem_cons.1 hk with rfl | hk
   ·exact⟨d,h1⟩
   ·rw [List.mem_singleton.1 hk];exact⟨d,h2⟩
  | times h1 h2 h3=>rw [List.mem_singleton.1 hk];exact⟨d,h3⟩
theorem a5X: ∀(e:Nat) {d:Nat} {q:q7},I3 d q→a7Y e q
 | 0,_,_,_=>trivial
 | e+1,d,q,h=>by
  obtain⟨h1,h2,h3,h4⟩:=b4X h
  exact⟨by omega,by omega,fun w hw=>by have:=h3 w hw;omega,by omega,fun k hk=>by
   obtain⟨d',hd⟩:=b4W h k hk
   exact a5X e hd⟩
theorem b6n (F:Nat)(r:z7)(hF:20<F)(h1:r.b_.length≤2000)(h2:0≤r.p_)(h3:r.p_+3*Z2 2≤100000): ∃q p,a0q F r=some (q,p)∧a7Y 4 q:=by
 unfold a0q
 have hdq:=a80 (d:=2) (by omega)
 obtain⟨q,p,hq,⟨q0,q1⟩,hg⟩:=a6c 2 F r (by omega) (by omega) h1 h2 h3
 rw [show ((2+1:Nat):Int)=3 from rfl] at hq
 rw [hq,a8]
 dsimp only
 obtain⟨t1,t2,t3,t4⟩:=b4X hg
 have u1:q.Field.length≤1000:=by omega
 have u2:q.Words.length≤100:=by omega
 have u4:q.Kids.length≤100:=by omega
 have u3: ∀w∈q.Words,w.length≤1000:=fun w hw=>by have:=t3 w hw;omega
 have hk: ∀e,∀k∈q.Kids,a7Y e k:=fun e k hk=>by
  obtain⟨d',hd⟩:=b4W hg k hk
  exact a5X e hd
 obtain⟨x,hx,_,_⟩:=O3 F ⟨r.b_,p⟩ 16 ⟨h1,by simp only;omega,by simp only;omega⟩
 rw [hx,a8]
 dsimp only
 cases x==0 with
 | true=>
  obtain⟨k,_,hk'⟩:=b8r F ⟨r.b_,p+1⟩ [0,11,7] ⟨h1,by simp only;omega,by simp only;omega⟩ (by simp)
  rw [j4,hk',a8]
  exact⟨_,_,rfl,u1,u2,u3,u4,hk 3⟩
 | false=>
 rw [i6]
 cases x==1 with
 | true=>
  obtain⟨k,_,hk'⟩:=b8r F ⟨r.b_,p+1⟩ [(-1),10,1] ⟨h1,by simp only;omega,by simp only;omega⟩ (by simp)
  rw [j4,hk',a8]
  exact⟨_,_,rfl,u1,u2,u3,u4,hk 3⟩
 | false=>
 rw [i6]
 cases x==2 with
 | true=>
  rw [j4,H4 (by rw [l8];omega),a8]
  refine⟨_,_,rfl,u1,by show (q.Words++_).length≤_;rw [o0,l8];omega,fun w hw=>?_,u4,hk 3⟩
  rcases List.mem_append.1 hw with hw | hw
  ·exact u3 w hw
  ·rw [List.mem_singleton.1 hw];decide
 | false=>
 rw [i6]
 cases x==3 with
 | true=>
  rw [j4,H4 (by rw [l8];omega),a8]
  refine⟨_,_,rfl,u1,u2,u3,by show ([q]++q.Kids).length≤_;rw [o0,l8];omega,fun k hkm=>?_⟩
  rcases List.mem_append.1 hkm with hkm | hkm
  ·rw [List.mem_singleton.1 hkm];exact a5X 3 hg
  ·exact hk 3 k hkm
 | false=>
  rw [i6]
  exact⟨_,_,rfl,a5X 4 hg⟩
theorem b5C (F:Nat)(code:List UInt8)(hF:200000<F): ∃c s q,a0n F code=some (c,s,q)∧a1K 100 c∧X3 s.Docs∧a7Y 4 q:=by
 unfold a0n
 obtain⟨r,hr,h1,h2⟩:=b0Q F code
 rw [hr,a8]
 obtain⟨c,s,p,hs,⟨p0,p1⟩,hcd,hsf,_⟩:=a8Y F r ⟨h1,by omega,by omega⟩ hF
 rw [hs,a8]
 dsimp only
 have hdq:=a80 (d:=2) (by omega)
 obtain⟨x,hx,_,_⟩:=O3 F ⟨r.b_,p⟩ 10 ⟨h1,by simp only;omega,by simp only;omega⟩
 rw [hx,a8]
 dsimp only
 cases x==0 with
 | true=>
  obtain⟨q,p',hq,hsm⟩:=b6n F ⟨r.b_,p+1⟩ (by omega) h1 (by simp only;omega) (by simp only;omega)
  rw [j4,hq,a8]
  exact⟨_,_,_,rfl,hcd.fit,hsf,hsm⟩
 | false=>
  obtain⟨q,p',hq,_,hg⟩:=a6c 2 F ⟨r.b_,p+1⟩ (by omega) (by omega) h1 (by simp only;omega) (by simp only;omega)
  rw [show ((2+1:Nat):Int)=3 from rfl] at hq
  rw [i6,hq,a8]
  exact⟨_,_,_,rfl,hcd.fit,hsf,a5X 4 hg⟩
def idQ (c:u6)(s:A5)(d:Nat)(q:q7)(x:A1):List Int:=if decide (0<C2 c s d q x) then [x.Id] else []
def a4R (c:u6)(s:A5)(q:q7):List Int:=if G9 c s&&okQ 4 q then s.Docs.flatMap (idQ c s 4 q) else []
theorem b8q (c:u6)(s:A5)(q:q7)(ho:G9 c s=true)(hq:okQ 4 q=true):(G6 c s 4 q).map (·.Doc)=a4R c s q:=by
 unfold G6 a4R
 rw [if_pos ho,ho,hq,if_pos (show (true&&true)=true from rfl),List.map_flatMap]
 congr 1
 funext x
 unfold a3T idQ
 split<;>rfl
theorem b8p (c:u6)(s:A5)(q:q7):(a4R c s q).length≤16:=by
 unfold a4R
 split
 ·rename_i h
  simp only [q8] at h
  have:=Z4 (g:=idQ c s 4 q) (m:=1) s.Docs fun x _=>by unfold idQ;split<;>simp
  have:=(a2D h.1).2
  omega
 ·simp
theorem b11 (F:Nat){c:u6}{s:A5}{q:q7}(hl:s.Docs.length≤1000000)(hc:c.Stops.length≤2000000)(hF:1000000100<F):I4 F c s q=some (a4R c s q):=by
 cases hq:okQ 4 q with
 | true=>
  rw [a23 F (b22 4 q hq) (by omega) hl hc hF]
  cases ho:G9 c s with
  | true=>rw [b8q c s q ho hq]
  | false=>
   unfold G6 a4R
   rw [ho,if_neg (by decide),Bool.false_and,if_neg (by decide)];rfl
 | false=>
  unfold I4 a05 a4R
  rw [a1T F c s (by omega) hc (by omega),a8,b6S F q (by omega),hq,Bool.and_false,if_neg (by decide)]
  cases G9 c s<;>rfl
theorem b7O (F:Nat){c:u6}{s:A5}{q:q7}(hsm:a7Y 4 q)(hs:X3 s.Docs)(hc:a1K 100 c)(hF:1000000100<F):a1n F c s q=some (a4R c s q):=by
 unfold a1n a4R
 rw [a9a F 100 c s hs hc (by omega) (by omega),a8]
 cases ho:G9 c s with
 | false=>rfl
 | true=>
  have hfew:=a2D ho
  rw [l7,i6,c2s F q hsm (by omega),a8]
  cases hq:okQ 4 q with
  | false=>rfl
  | true=>
   have hg:=b22 4 q hq
   have hfl:=Z4 (g:=idQ c s 4 q) (m:=1) s.Docs fun x _=>by unfold idQ;split<;>simp
   rw [l7,a8,i6,u5,if_pos rfl,a5W (xs:=s.Docs) (idQ c s 4 q) 100 F (by omega) (fun i x acc hx hB=>?_) (fun acc=>?_) [] (by rw [List.nil_append];omega),List.nil_append]
   ·rfl
   ·have hi:=(i4.1 hx).1
    have hm:=n5 hx
    rw [b8 (by omega),j4,n8,hx,a8,a7w c s x ho hm hc (by have:=(hs.doc _ hm).nums;omega) hg (by omega) F (by omega),a8,a8]
    unfold idQ at hB ⊢
    by_cases h0:0<C2 c s 4 q x
    ·rw [b8 h0,if_pos rfl] at hB ⊢
     rw [o0,l8] at hB
     rw [j4,H4 (by show (acc.length+1)*8≤_;omega),a8,y5 (by omega)]
    ·rw [c6 h0,i6,if_neg (by decide),List.append_nil,y5 (by omega)]
   ·rw [c6 (by omega)];rfl
theorem b60 (code:List UInt8): ∃F,a3i F code=some true:=by
 refine⟨2000000000,?_⟩
 generalize hF:2000000000=F
 unfold a3i
 cases decide ((1048576:Int)<(code.length:Int))
 case true=>rfl
 obtain⟨c,s,q,h1,hc,hs,hsm⟩:=b5C F code (by omega)
 have hl:=hs.few
 have hst:=hc.stops.1
 have hlen:=b8p c s q
 have hself:=a79 F (a4R c s q) (by omega) (by omega)
 rw [i6,h1,a8]
 dsimp only
 rw [b11 F (by omega) (by omega) (by omega),a8,b7O F hsm hs hc (by omega),a8,hself,a8,l7,i6,a1T F c s (by omega) (by omega) (by omega),a8,a8,hself,a8]
 cases ho:G9 c s with
 | false=>rfl
 | true=>
 rw [l7,i6,b6S F q (by omega),a8]
 cases hq:okQ 4 q with
 | false=>rfl
 | true=>
 have hg:=b22 4 q hq
 have hfew:=a2D ho
 have hm:a4R c s q=s.Docs.flatMap (idQ c s 4 q):=by
  unfold a4R
  rw [ho,hq];rfl
 have hfl:=Z4 (g:=idQ c s 4 q) (m:=1) s.Docs fun x _=>by unfold idQ;split<;>simp
 rw [l7,a8,i6,a5W (xs:=s.Docs) (idQ c s 4 q) 100 F (by omega) (fun i x acc hx hB=>?_) (fun acc=>?_) [] (by rw [List.nil_append];omega),List.nil_append,←hm,a8,a8,hself,a8,j4]
 ·have hids:s.Docs.flatMap (idQ c s 4 ⟨1,[],[],0,0,[]⟩)=s.Docs.flatMap fun x=>[x.Id]:=by
   congr 1
  have hall:I4 F c s (q7.mk 1 [] [] 0 0 [])=some (s.Docs.flatMap fun x=>[x.Id]):=by
   rw [b11 F (by omega) (by omega) (by omega)]
   unfold a4R
   rw [ho,show okQ 4 ⟨1,[],[],0,0,[]⟩=true from rfl,u5,if_pos rfl,hids]
  have hfl1:=Z4 (g:=fun x:A1=>[x.Id]) (m:=1) s.Docs fun x _=>by simp
  have hdoc:a16 F s=some (s.Docs.flatMap fun x=>[x.Id]):=by
   unfold a16
   rw [a5W (xs:=s.Docs) (fun x=>[x.Id]) 100 F (by omega) (fun i x acc hx hB=>?_) (fun acc=>?_) [] (by rw [List.nil_append];omega),List.nil_append]
   ·rfl
   ·have hi:=(i4.1 hx).1
    rw [o0,l8] at hB
    rw [b8 (by omega),j4,n8,hx,a8,H4 (by show (acc.length+1)*8≤_;omega),a8,y5 (by omega)]
   ·rw [c6 (by omega)];rfl
  rw [hall,a8,hdoc,a8,a79 F _ (by omega) (by omega),a8]
 ·have hi:=(i4.1 hx).1
  have hmm:=n5 hx
  have hsc:L7 c s 4 q x.Id=C2 c s 4 q x:=by
   unfold L7
   rw [if_pos ho,a5V ho hmm];rfl
  rw [b8 (by omega),j4,n8,hx,a8,a1U F _ hg (by omega) (by omega) (by omega) (by omega),a8,a8,hsc]
  unfold idQ at hB ⊢
  by_cases h0:0<C2 c s 4 q x
  ·rw [b8 h0,if_pos rfl] at hB ⊢
   rw [o0,l8] at hB
   rw [j4,H4 (by show (acc.length+1)*8≤_;omega),a8,y5 (by omega)]
  ·rw [c6 h0,i6,if_neg (by decide),List.append_nil,y5 (by omega)]
 ·rw [c6 (by omega)];rfl
end Go.Fk
