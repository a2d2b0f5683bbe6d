/-
  What a question finds, of all questions. The law, on the models.
-/
import Derived.Test.YtepcfgnicnibnaaGreatDoorLawScoreT
import Derived.Test.YtepcfgnicnibnaaGreatDoorLawOkQ
import Derived.Test.YtepcfgnicnibnaaGreatDoorLawBase
set_option linter.unusedVariables false
namespace Go.Fk
open Go
theorem b25 {q:r5}(h:a4y q):q.Field.length≤12∧q.Words.length≤4∧(∀w∈q.Words,w.length≤12)∧q.Kids=[]:=by
 have one: ∀{p:q9},p.length≤12→∀w∈[p],w.length≤12:=fun hp w hw=>by rw [List.mem_singleton.1 hw];exact hp
 cases h with
 | all=>exact⟨by simp,by simp,fun w hw=>(by cases hw),rfl⟩
 | term hf hw=>exact⟨N3 hf,by simp,one (N3 hw),rfl⟩
 | phrase hf h1 h2 hw h3 h4=>exact⟨N3 hf,h2,fun w hm=>N3 (hw w hm),rfl⟩
 | near hf hw h1 h2=>exact⟨N3 hf,by simp,one (N3 hw),rfl⟩
 | glob hf hp hn=>
  refine⟨N3 hf,by simp,one ?_,rfl⟩
  simp only [a7B,l8,decide_eq_true_eq] at hp
  omega
 | range hf h1 h2 h3 h4=>exact⟨N3 hf,by simp,fun w hw=>(by cases hw),rfl⟩
structure c5C (q:r5):Prop where
 f:q.Field.length≤12
 w:q.Words.length≤4
 ws: ∀w∈q.Words,w.length≤12
 k:q.Kids.length≤4
theorem b4G {d:Nat}{q:r5}(h:I8 d q):c5C q:=by
 cases h with
 | leaf h=>
  obtain⟨h1,h2,h3,h4⟩:=b25 h
  exact⟨h1,h2,h3,by rw [h4];simp⟩
 | and h1 h2 h3=>exact⟨by simp,by simp,fun w hw=>(by cases hw),h2⟩
 | or h1 h2 h3=>exact⟨by simp,by simp,fun w hw=>(by cases hw),h2⟩
 | less h1 h2=>exact⟨by simp,by simp,fun w hw=>(by cases hw),by simp⟩
 | times h1 h2 h3=>exact⟨by simp,by simp,fun w hw=>(by cases hw),by simp⟩
theorem b4F: ∀{d:Nat} {q:r5},I8 d q→∀k∈q.Kids,∃e,I8 e k
 | 0,_,h,_,_=>by cases h
 | d+1,q,h,k,hk=>by
  cases h with
  | leaf h=>rw [(b25 h).2.2.2] at hk;cases hk
  | and h1 h2 h3=>exact⟨d,h3 k hk⟩
  | or h1 h2 h3=>exact⟨d,h3 k hk⟩
  | @less _ a b h1 h2=>
   rcases List.mem_cons.1 hk with rfl | hk
   ·exact⟨d,h1⟩
   ·rw [List.mem_singleton.1 hk];exact⟨d,h2⟩
  | times h1 h2 h3=>rw [List.mem_singleton.1 hk];exact⟨d,h3⟩
theorem a5j: ∀(e:Nat) {d:Nat} {q:r5},I8 d q→a7p e q
 | 0,_,_,_=>trivial
 | e+1,d,q,h=>by
  obtain⟨h1,h2,h3,h4⟩:=b4G h
  exact⟨by omega,by omega,fun w hw=>by have:=h3 w hw;omega,by omega,fun k hk=>by
   obtain⟨d',hd⟩:=b4F h k hk
   exact a5j e hd⟩
theorem b6c (F:Nat)(r:z2)(hF:20<F)(h1:r.b_.length≤2000)(h2:0≤r.p_)(h3:r.p_+3*W1 2≤100000): ∃q p,Y1 F r=some (q,p)∧a7p 4 q:=by
 unfold Y1
 have hdq:=a8k (d:=2) (by omega)
 obtain⟨q,p,hq,⟨q0,q1⟩,hg⟩:=a5A 2 F r (by omega) (by omega) h1 h2 h3
 rw [show ((2+1:Nat):Int)=3 from rfl] at hq
 rw [hq,a8]
 dsimp only
 obtain⟨t1,t2,t3,t4⟩:=b4G hg
 have u1:q.Field.length≤1000:=by omega
 have u2:q.Words.length≤100:=by omega
 have u4:q.Kids.length≤100:=by omega
 have u3: ∀w∈q.Words,w.length≤1000:=fun w hw=>by have:=t3 w hw;omega
 have hk: ∀e,∀k∈q.Kids,a7p e k:=fun e k hk=>by
  obtain⟨d',hd⟩:=b4F hg k hk
  exact a5j e hd
 obtain⟨x,hx,_,_⟩:=H7 F ⟨r.b_,p⟩ 16 ⟨h1,by simp only;omega,by simp only;omega⟩
 rw [hx,a8]
 dsimp only
 cases x==0 with
 | true=>
  obtain⟨k,_,hk'⟩:=b0T F ⟨r.b_,p+1⟩ [0,11,7] ⟨h1,by simp only;omega,by simp only;omega⟩ (by simp)
  rw [i9,hk',a8]
  exact⟨_,_,rfl,u1,u2,u3,u4,hk 3⟩
 | false=>
 rw [i6]
 cases x==1 with
 | true=>
  obtain⟨k,_,hk'⟩:=b0T F ⟨r.b_,p+1⟩ [(-1),10,1] ⟨h1,by simp only;omega,by simp only;omega⟩ (by simp)
  rw [i9,hk',a8]
  exact⟨_,_,rfl,u1,u2,u3,u4,hk 3⟩
 | false=>
 rw [i6]
 cases x==2 with
 | true=>
  rw [i9,F1 (by rw [j9];omega),a8]
  refine⟨_,_,rfl,u1,by show (q.Words++_).length≤_;rw [n9,j9];omega,fun w hw=>?_,u4,hk 3⟩
  rcases List.mem_append.1 hw with hw | hw
  ·exact u3 w hw
  ·rw [List.mem_singleton.1 hw];decide
 | false=>
 rw [i6]
 cases x==3 with
 | true=>
  rw [i9,F1 (by rw [j9];omega),a8]
  refine⟨_,_,rfl,u1,u2,u3,by show ([q]++q.Kids).length≤_;rw [n9,j9];omega,fun k hkm=>?_⟩
  rcases List.mem_append.1 hkm with hkm | hkm
  ·rw [List.mem_singleton.1 hkm];exact a5j 3 hg
  ·exact hk 3 k hkm
 | false=>
  rw [i6]
  exact⟨_,_,rfl,a5j 4 hg⟩
theorem b5o (F:Nat)(code:List UInt8)(hF:200000<F): ∃c s q,Y0 F code=some (c,s,q)∧a0B 100 c∧Q2 s.Docs∧a7p 4 q:=by
 unfold Y0
 obtain⟨r,hr,h1,h2⟩:=b2y F code
 rw [hr,a8]
 obtain⟨c,s,p,hs,⟨p0,p1⟩,hcd,hsf,_⟩:=b0n F r ⟨h1,by omega,by omega⟩ hF
 rw [hs,a8]
 dsimp only
 have hdq:=a8k (d:=2) (by omega)
 obtain⟨x,hx,_,_⟩:=H7 F ⟨r.b_,p⟩ 10 ⟨h1,by simp only;omega,by simp only;omega⟩
 rw [hx,a8]
 dsimp only
 cases x==0 with
 | true=>
  obtain⟨q,p',hq,hsm⟩:=b6c F ⟨r.b_,p+1⟩ (by omega) h1 (by simp only;omega) (by simp only;omega)
  rw [i9,hq,a8]
  exact⟨_,_,_,rfl,hcd.fit,hsf,hsm⟩
 | false=>
  obtain⟨q,p',hq,_,hg⟩:=a5A 2 F ⟨r.b_,p+1⟩ (by omega) (by omega) h1 (by simp only;omega) (by simp only;omega)
  rw [show ((2+1:Nat):Int)=3 from rfl] at hq
  rw [i6,hq,a8]
  exact⟨_,_,_,rfl,hcd.fit,hsf,a5j 4 hg⟩
def idQ (c:u5)(s:A7)(d:Nat)(q:r5)(x:y5):List Int:=if decide (0<D1 c s d q x) then [x.Id] else []
def U7 (c:u5)(s:A7)(q:r5):List Int:=if N0 c s&&okQ 4 q then s.Docs.flatMap (idQ c s 4 q) else []
theorem b8q (c:u5)(s:A7)(q:r5)(ho:N0 c s=true)(hq:okQ 4 q=true):(I4 c s 4 q).map (·.Doc)=U7 c s q:=by
 unfold I4 U7
 rw [if_pos ho,ho,hq,if_pos (show (true&&true)=true from rfl),List.map_flatMap]
 congr 1
 funext x
 unfold a4J idQ
 split<;>rfl
theorem b8p (c:u5)(s:A7)(q:r5):(U7 c s q).length≤16:=by
 unfold U7
 split
 ·rename_i h
  simp only [l8] at h
  have:=W3 (g:=idQ c s 4 q) (m:=1) s.Docs fun x _=>by unfold idQ;split<;>simp
  have:=(a3g h.1).2
  omega
 ·simp
theorem b1j (F:Nat){c:u5}{s:A7}{q:r5}(hl:s.Docs.length≤1000000)(hc:c.Stops.length≤2000000)(hF:1000000100<F):Q8 F c s q=some (U7 c s q):=by
 cases hq:okQ 4 q with
 | true=>
  rw [b6J F (b5z 4 q hq) (by omega) hl hc hF]
  cases ho:N0 c s with
  | true=>rw [b8q c s q ho hq]
  | false=>
   unfold I4 U7
   rw [ho,if_neg (by decide),Bool.false_and,if_neg (by decide)];rfl
 | false=>
  unfold Q8 Q4 U7
  rw [a8p F c s (by omega) hc (by omega),a8,b6K F q (by omega),hq,Bool.and_false,if_neg (by decide)]
  cases N0 c s<;>rfl
theorem b7B (F:Nat){c:u5}{s:A7}{q:r5}(hsm:a7p 4 q)(hs:Q2 s.Docs)(hc:a0B 100 c)(hF:1000000100<F):a0J F c s q=some (U7 c s q):=by
 unfold a0J U7
 rw [a99 F 100 c s hs hc (by omega) (by omega),a8]
 cases ho:N0 c s with
 | false=>rfl
 | true=>
  have hfew:=a3g ho
  rw [l9,i6,c2H F q hsm (by omega),a8]
  cases hq:okQ 4 q with
  | false=>rfl
  | true=>
   have hg:=b5z 4 q hq
   have hfl:=W3 (g:=idQ c s 4 q) (m:=1) s.Docs fun x _=>by unfold idQ;split<;>simp
   rw [l9,a8,i6,q8,if_pos rfl,a9E (xs:=s.Docs) (idQ c s 4 q) 100 F (by omega) (fun i x acc hx hB=>?_) (fun acc=>?_) [] (by rw [List.nil_append];omega),List.nil_append]
   ·rfl
   ·have hi:=(i4.1 hx).1
    have hm:=l7 hx
    rw [b8 (by omega),i9,n5,hx,a8,a6V c s x ho hm hc (by have:=(hs.doc _ hm).nums;omega) hg (by omega) F (by omega),a8,a8]
    unfold idQ at hB ⊢
    by_cases h0:0<D1 c s 4 q x
    ·rw [b8 h0,if_pos rfl] at hB ⊢
     rw [n9,j9] at hB
     rw [i9,F1 (by show (acc.length+1)*8≤_;omega),a8,y2 (by omega)]
    ·rw [c6 h0,i6,if_neg (by decide),List.append_nil,y2 (by omega)]
   ·rw [c6 (by omega)];rfl
end Go.Fk
