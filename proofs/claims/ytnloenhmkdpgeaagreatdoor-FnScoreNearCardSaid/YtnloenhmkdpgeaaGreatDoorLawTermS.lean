/-
  What a word is worth: points of its places. The law, on the models.
-/
import Derived.Test.YtnloenhmkdpgeaaGreatDoorModelLScoreTerm
import Derived.Test.YtnloenhmkdpgeaaGreatDoorLawPlace
set_option linter.unusedVariables false
namespace Go.Fk
open Go
theorem b9h {c:u6}{docs:List A1}{n t:r4}{p:F7}(h:p∈docs.flatMap (H6 c n t)): ∃d∈docs,p=⟨d.Id,U5 c d n t⟩∧0<(U5 c d n t).length:=by
 obtain⟨d,hd,hp⟩:=List.mem_flatMap.1 h
 unfold H6 at hp
 split at hp
 ·rename_i hl
  exact⟨d,hd,List.mem_singleton.1 hp,of_decide_eq_true hl⟩
 ·cases hp
theorem c2L {c:u6}{docs:List A1}(h2:a1I docs=true){n t:r4}{d:A1}(hd:d∈docs):atS (a1F c docs) n t d.Id=if 0<(U5 c d n t).length then U5 c d n t else []:=by
 have huniq: ∀e∈docs,e.Id=d.Id→e=d:=fun e he hid=>by
  have h3:=b0q ((a0Q h2).2.2) he
  have h4:=b0q ((a0Q h2).2.2) hd
  rw [hid,h4] at h3
  exact(Option.some.inj h3).symm
 by_cases h0:(atS (a1F c docs) n t d.Id).length=0
 ·split
  ·rename_i hl
   unfold atS at h0
   rw [a6s] at h0
   have hm:(⟨d.Id,U5 c d n t⟩:F7)∈docs.flatMap (H6 c n t):=List.mem_flatMap.2 ⟨d,hd,by unfold H6;rw [b8 hl,if_pos rfl];exact List.mem_singleton.2 rfl⟩
   cases hf:(docs.flatMap (H6 c n t)).find? fun p=>p.Doc==d.Id with
   | none=>
    have:=List.find?_eq_none.1 hf _ hm
    simp at this
   | some p=>
    rw [hf] at h0
    obtain⟨e,he,rfl,hp⟩:=b9h (List.mem_of_find?_eq_some hf)
    simp only [Option.elim] at h0
    omega
  ·exact List.length_eq_zero_iff.1 h0
 ·obtain⟨e,he,hid,hat⟩:=b5A h0
  rw [huniq e he hid] at hat
  rw [hat] at h0 ⊢
  rw [if_pos (by omega)]
theorem c00 {docs:List A1}{i:Nat}(hi:i<docs.length):docs=docs.take i++docs[i]::docs.drop (i+1):=by
 rw [←List.drop_eq_getElem_cons hi,List.take_append_drop]
theorem b4E (code:List UInt8): ∃F,a1O F code=some true:=by
 refine⟨2000000000,?_⟩
 generalize hF:2000000000=F
 unfold a1O
 cases decide ((1048576:Int)<(code.length:Int))
 case true=>rfl
 obtain⟨c,s,n,a,h1,hc,hs,hn,ha⟩:=a49 F code (by omega)
 have hl:=hs.few
 have hst:=hc.stops.1
 rw [i6,h1,a8]
 dsimp only
 have hspec:R4 F c s=some (G9 c s):=by
  unfold R4
  rw [a9a F 100 c s hs hc (by omega) (by omega)];rfl
 rw [a1T F c s (by omega) (by omega) (by omega),a8,hspec,a8,beq_self_eq_true,l7,i6,a8,a8,beq_self_eq_true]
 cases ho:G9 c s with
 | false=>rfl
 | true=>
 rw [l7,i6,a7p F c a (by omega) (by omega),a8,a9y F c s n _ (by omega) (by omega) (by omega),if_pos ho,a8]
 obtain⟨k1,k2,k3⟩:=a0w ho
 have la:a3D ⟨2,n,[a],0,0,[]⟩:=.term hn (a8U a ha).1
 have hlong: ∀id,N6 F c s n id=some (M8 c s.Docs n id:Int):=fun id=>by
  rw [b0w F c s n id (by omega) (by omega) (by omega)]
  unfold b87
  rw [if_pos ho]
 have htot:y2 (σ:=Int×Int) (τ:=Int) (fun (s134:Int×Int)=>(cond (decide (s134.2<(s.Docs.length:Int))) ((v8 s.Docs s134.2).bind fun x150=>((N6 F c s n x150.Id).bind fun r168=>(some (.inl ((z8 (s134.1+r168)),(z8 (s134.2+1))))))) (some (.inr s134.1)))) F (0,0)=some ((a7i c s.Docs n:Nat):Int):=by
  refine b3I (I7 (Post:=fun a=>a=((a7i c s.Docs n:Nat):Int)) (fun i (st:Int×Int)=>st=(((((s.Docs.take i).map fun d=>(G2 c (H7 d n)).length).sum:Nat):Int),(i:Int))) s.Docs.length (fun i st hi hst=>?_) (fun st hst=>?_) s.Docs.length 0 ((0:Int),(0:Int)) F (by omega) (by omega) (by simp))
  ·subst hst
   have hb:=b4n (c:=c) k2 n (i+1)
   refine .inl ⟨_,?_,rfl⟩
   dsimp only
   rw [b8 (by omega),j4,T5 hi,a8,hlong,a8,y5 (by omega),b5Q k2 n (List.getElem_mem hi)]
   rw [List.take_succ_eq_append_getElem hi,List.map_append,List.sum_append] at hb ⊢
   simp only [List.map_cons,List.map_nil,List.sum_cons,List.sum_nil,Nat.add_zero] at hb ⊢
   rw [a5N (by omega)]
  ·subst hst
   refine⟨_,by dsimp only;rw [c6 (by omega)];rfl,?_⟩
   rw [List.take_length];rfl
 rw [htot,a8,a8]
 generalize hpq:Y8 c a=t at *
 have hP:G3 s n t=s.Docs.flatMap (H6 c n t):=by rw [k3];exact a6s c s.Docs n t
 have hfit:=(a4A ho n t).1
 have hone: ∀l:List A1,(l.flatMap (H6 c n t)).length≤l.length:=fun l=>b7e c n t l
 have e1: ∀x∈s.Docs,L7 c s 1 ⟨2,n,[a],0,0,[]⟩ x.Id=((H2 c s n t x.Id:Nat):Int):=fun x hx=>by
  rw [a86 la ho hx,←hpq];rfl
 have hat: ∀x∈s.Docs,atS s n t x.Id=if 0<(U5 c x n t).length then U5 c x n t else []:=fun x hx=>by
  have:=c2L (c:=c) k2 (n:=n) (t:=t) hx
  rwa [←k3] at this
 have hrun: ∀f:Int×Int→Option ((Int×Int)⊕(Int⊕Bool)),
   (∀(i:Nat) (hi:i<s.Docs.length),f ((((s.Docs.take i).flatMap (H6 c n t)).length:Int),(i:Int))=some (.inl ((((s.Docs.take (i+1)).flatMap (H6 c n t)).length:Int),((i+1:Nat):Int))))→
   (∀x:Int,f (x,(s.Docs.length:Int))=some (.inr (.inl x)))→y2 f F (0,0)=some (.inl ((G3 s n t).length:Int)):=fun f hf h0=>by
  refine b3I (I7 (Post:=fun r:Int⊕Bool=>r= .inl ((G3 s n t).length:Int)) (fun i (st:Int×Int)=>st=((((s.Docs.take i).flatMap (H6 c n t)).length:Int),(i:Int))) s.Docs.length (fun i st hi e=>?_) (fun st e=>?_) s.Docs.length 0 (0,0) F (by omega) (by omega) rfl)
  ·subst e
   exact .inl ⟨_,hf i hi,rfl⟩
  ·subst e
   refine⟨_,h0 _,?_⟩
   rw [List.take_length,hP]
 rw [hrun _ (fun i hi=>?_) (fun x=>?_),a8]
 ·show some (((G3 s n t).length:Int)==((G3 s n t).length:Int))=some true
  rw [beq_self_eq_true]
 ·have hx:s.Docs[i]∈s.Docs:=List.getElem_mem hi
  dsimp only
  rw [b8 (by omega),j4,T5 hi,a8,a1U F (d:=1) _ (.leaf la) (by omega) (by omega) (by omega) (by omega),a8,a5L F (d:=1) _ (.leaf la) (by omega) hs hc (by omega),a8,beq_self_eq_true,l7,i6,e1 _ hx]
  have hN:=hone (s.Docs.take i)
  have hsp:=c00 hi
  have htk:s.Docs.take (i+1)=s.Docs.take i++[s.Docs[i]]:=List.take_succ_eq_append_getElem hi
  have hPs:G3 s n t=(s.Docs.take i).flatMap (H6 c n t)++(H6 c n t s.Docs[i]++(s.Docs.drop (i+1)).flatMap (H6 c n t)):=by
   rw [hP]
   conv=>lhs;rw [hsp]
   rw [List.flatMap_append,List.flatMap_cons]
  have hbeh: ∀e∈s.Docs.drop (i+1),s.Docs[i].Id<e.Id:=fun e he=>by
   have hp:=(a0Q k2).2.2
   rw [hsp,List.pairwise_append] at hp
   exact(List.pairwise_cons.1 hp.2.1).1 e he
  rw [htk,List.flatMap_append,List.flatMap_singleton,o0]
  have hai:=hat _ hx
  rw [List.length_take] at hN
  generalize hA:(s.Docs.take i).flatMap (H6 c n t)=A at *
  by_cases h0:0<(U5 c s.Docs[i] n t).length
  ·have hdp:H6 c n t s.Docs[i]=[⟨s.Docs[i].Id,U5 c s.Docs[i] n t⟩]:=by unfold H6;rw [b8 h0,if_pos rfl]
   rw [if_pos h0] at hai
   have hg:(G3 s n t)[A.length]? =some ⟨s.Docs[i].Id,U5 c s.Docs[i] n t⟩:=by
    rw [hPs,hdp,List.getElem?_append_right (Nat.le_refl _),Nat.sub_self];rfl
   have hlt:A.length<(G3 s n t).length:=(i4.1 hg).1
   have hs0:(atS s n t s.Docs[i].Id).length≠0:=by rw [hai];omega
   have hsc:a2z (atS s n t s.Docs[i].Id).length (M8 c s.Docs n s.Docs[i].Id) (a7i c s.Docs n) s.Docs.length (G3 s n t).length:=by
    have:=a7a (c:=c) k2 (n:=n) (t:=t) (id:=s.Docs[i].Id)
    rw [←k3] at this
    exact this hs0
   have hu:=b4q hsc
   have hdn:=a7m hsc
   have hpt:H2 c s n t s.Docs[i].Id=b54 (atS s n t s.Docs[i].Id).length (M8 c s.Docs n s.Docs[i].Id) (a7i c s.Docs n) s.Docs.length (G3 s n t).length:=by
    unfold H2
    rw [if_neg hs0]
   rw [c6 (by omega),i6,n8,hg,a8,a8]
   dsimp only
   rw [beq_self_eq_true,l7,i6,a8,hlong,a8,←hai,b1n F _ _ _ _ _ hsc (by omega),a8,a8]
   dsimp only
   rw [j4,a9V F _ _ (by omega) ⟨hdn.1,by omega⟩ (by omega),a8,hpt]
   show ((some (!(((a9z _ _:Nat):Int)==((a9z _ _:Nat):Int)))).bind _)=_
   rw [beq_self_eq_true,l7,a8,i6,y5 (by omega),y5 (by omega),hdp]
   rfl
  ·have hdp:H6 c n t s.Docs[i]=[]:=by unfold H6;rw [c6 h0,if_neg (by decide)]
   rw [if_neg h0] at hai
   have hpt:H2 c s n t s.Docs[i].Id=0:=by
    unfold H2
    rw [hai];rfl
   have hcnd:((cond (decide (((G3 s n t).length:Int)≤(A.length:Int))) (some true) ((v8 (G3 s n t) (A.length:Int)).bind fun x254=>(some (!(x254.Doc==s.Docs[i].Id))))):Option Bool)=some true:=by
    rw [n8,hPs,hdp,List.nil_append]
    cases hC:(s.Docs.drop (i+1)).flatMap (H6 c n t) with
    | nil=>rw [List.append_nil,b8 (Int.le_refl _)];rfl
    | cons p C=>
     obtain⟨e,he,hpe,_⟩:=b9h (c:=c) (docs:=s.Docs.drop (i+1)) (n:=n) (t:=t) (p:=p) (by rw [hC];exact List.mem_cons_self)
     have:=hbeh e he
     rw [c6 (by rw [o0,s6];omega),i6,List.getElem?_append_right (Nat.le_refl _),Nat.sub_self]
     show some (!(p.Doc==s.Docs[i].Id))=some true
     rw [hpe,beq_eq_false_iff_ne.2 (by show e.Id≠_;omega)];rfl
   rw [hcnd,a8,j4,hpt,hdp,y5 (by omega)]
   rfl
 ·dsimp only
  rw [c6 (by omega)];rfl
end Go.Fk
