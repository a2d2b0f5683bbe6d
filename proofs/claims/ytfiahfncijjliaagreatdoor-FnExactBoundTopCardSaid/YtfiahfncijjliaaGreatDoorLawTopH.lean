import Derived.Test.YtfiahfncijjliaaGreatDoorLawKeep
/-
  Hits in order: the program's and the reference's tests, and pushing one among others. Of no program.
-/
namespace Go.Fk
open Go
def lessH (a b:GHit):Bool:=decide (b.Points<a.Points)||(a.Points==b.Points&&decide (a.Doc<b.Doc))
theorem lessH_iff (a b:GHit):lessH a b=true↔b.Points<a.Points∨(a.Points=b.Points∧a.Doc<b.Doc):=by simp [lessH]
theorem lessH_irrefl (a:GHit):lessH a a=false:=by
 rw [Bool.eq_false_iff];intro h
 rw [lessH_iff] at h;omega
theorem lessH_trans {a b c:GHit}(h:lessH a b=true)(h':lessH b c=true):lessH a c=true:=by
 rw [lessH_iff] at *;omega
theorem lessH_total {a b:GHit}(h:lessH a b=false)(h':lessH b a=false):a=b:=by
 have h1: ¬_:=fun q=>by rw [(lessH_iff a b).2 q] at h;cases h
 have h2: ¬_:=fun q=>by rw [(lessH_iff b a).2 q] at h';cases h'
 obtain⟨d,p⟩:=a
 obtain⟨d',p'⟩:=b
 simp only at h1 h2
 have e1:p=p':=by omega
 have e2:d=d':=by omega
 rw [e1,e2]
theorem lessH_asymm {a b:GHit}(h:lessH a b=true):lessH b a=false:=by
 rw [Bool.eq_false_iff];intro h'
 have:=lessH_trans h h'
 rw [lessH_irrefl] at this;cases this
theorem lessH_neg {a b:GHit}(h:lessH a b=false)(hne:a≠b):lessH b a=true:=by
 cases h':lessH b a with
 | true=>rfl
 | false=>exact absurd (lessH_total h h') hne
theorem specLess (F:Nat)(a b:GHit):M.spec_l13Less F a b=some (lessH a b):=by
 unfold M.spec_l13Less lessH
 cases decide (b.Points<a.Points)<;>cases a.Points==b.Points<;>rfl
def cmpI (x y:Int):Int:=if x<y then -1 else if y<x then 1 else 0
theorem cmp_ok (F:Nat)(x y:Int):M.cmp_Compare_int F x y=some (cmpI x y):=by
 unfold M.cmp_Compare_int M.cmp_isNaN_int cmpI
 simp only [beq_self_eq_true,Bool.not_true,Option.bind_some,cond_false]
 by_cases h:x<y
 ·rw [decide_eq_true h,if_pos h];rfl
 ·rw [decide_eq_false h,if_neg h,cond_false]
  by_cases h2:y<x
  ·rw [decide_eq_true h2,if_pos h2];rfl
  ·rw [decide_eq_false h2,if_neg h2];rfl
theorem or_ok (F:Nat)(a b:Int):M.cmp_Or_int F [a,b]=some (if a=0 then b else a):=by
 unfold M.cmp_Or_int
 simp only [List.length_cons,List.length_nil,forFrom]
 have g0:getI [a,b] ((0:Nat):Int)=some a:=rfl
 have g1:getI [a,b] ((0+1:Nat):Int)=some b:=rfl
 rw [g0]
 by_cases h:a=0
 ·subst h
  simp only [Option.bind_some,beq_self_eq_true,Bool.not_true,cond_false,Sum.elim_inl]
  rw [g1]
  by_cases hb:b=0
  ·subst hb;rfl
  ·rw [Option.bind_some,beq_eq_false_iff_ne.2 hb];rfl
 ·rw [Option.bind_some,beq_eq_false_iff_ne.2 h,if_neg h];rfl
def ordH (a b:GHit):Int:=if cmpI b.Points a.Points=0 then cmpI a.Doc b.Doc else cmpI b.Points a.Points
theorem ord_ok (F:Nat)(a b:GHit):M.impl_hitOrder F a b=some (ordH a b):=by
 unfold M.impl_hitOrder
 rw [cmp_ok,Option.bind_some,cmp_ok,Option.bind_some,or_ok];rfl
theorem ordH_neg (a b:GHit):decide (ordH a b<0)=lessH a b:=by
 rw [Bool.eq_iff_iff,decide_eq_true_iff,lessH_iff]
 unfold ordH cmpI
 by_cases h1:b.Points<a.Points
 ·simp only [if_pos h1]
  simp [h1]
 ·simp only [if_neg h1]
  by_cases h2:a.Points<b.Points
  ·simp only [if_pos h2]
   simp;omega
  ·simp only [if_neg h2,if_true]
   by_cases h3:a.Doc<b.Doc
   ·simp only [if_pos h3]
    constructor
    ·intro _;omega
    ·intro _;decide
   ·simp only [if_neg h3]
    split<;>omega
theorem ordH_nonneg (a b:GHit):decide (0≤ordH a b)= !lessH a b:=by
 rw [←ordH_neg]
 by_cases h:ordH a b<0
 ·rw [decide_eq_true h,decide_eq_false (by omega)];rfl
 ·rw [decide_eq_false h,decide_eq_true (by omega)];rfl
theorem ltO_less (F:Nat)(a b:GHit):ltO (fun a b=>M.impl_hitOrder F a b) a b=lessH a b:=by
 show decide ((M.impl_hitOrder F a b).getD 0<0)=_
 rw [ord_ok]
 exact ordH_neg a b
def insH (h:GHit):List GHit→List GHit
 | []=>[h]
 | a::l=>if lessH a h then a::insH h l else h::a::l
def SortedH (l:List GHit):Prop:=l.Pairwise fun a b=>lessH a b=true
theorem mem_insH {h x:GHit}: ∀{l:List GHit},x∈insH h l↔x=h∨x∈l
 | []=>by simp [insH]
 | a::l=>by
  unfold insH
  split
  ·rw [List.mem_cons,mem_insH (l:=l),List.mem_cons]
   constructor
   ·rintro (h1 | h1 | h1)<;>simp [h1]
   ·rintro (h1 | h1 | h1)<;>simp [h1]
  ·simp [List.mem_cons]
theorem insH_sorted {h:GHit}: ∀{l:List GHit},SortedH l→h∉l→SortedH (insH h l)
 | [],_,_=>by simp [insH,SortedH]
 | a::l,hs,hn=>by
  have hc:=List.pairwise_cons.1 hs
  unfold insH
  cases hl:lessH a h with
  | true=>
   rw [if_pos rfl]
   refine List.pairwise_cons.2 ⟨fun x hx=>?_,insH_sorted hc.2 (fun hm=>hn (by simp [hm]))⟩
   rcases mem_insH.1 hx with rfl | hx
   ·exact hl
   ·exact hc.1 x hx
  | false=>
   have hne:a≠h:=fun e=>hn (by simp [e])
   have hha:=lessH_neg hl hne
   rw [if_neg (by simp)]
   refine List.pairwise_cons.2 ⟨fun x hx=>?_,hs⟩
   rcases List.mem_cons.1 hx with rfl | hx
   ·exact hha
   ·exact lessH_trans hha (hc.1 x hx)
theorem insH_len (h:GHit): ∀l:List GHit,(insH h l).length=l.length+1
 | []=>rfl
 | a::l=>by
  unfold insH
  split
  ·rw [List.length_cons,insH_len h l,List.length_cons]
  ·rfl
def rankH (h:GHit):List GHit→Nat
 | []=>0
 | a::l=>if lessH a h then rankH h l+1 else 0
theorem rankH_le (h:GHit): ∀l:List GHit,rankH h l≤l.length
 | []=>Nat.le_refl _
 | a::l=>by
  unfold rankH
  split
  ·have:=rankH_le h l;simp only [List.length_cons];omega
  ·omega
theorem insH_cut (h:GHit): ∀l:List GHit,insH h l=l.take (rankH h l)++[h]++l.drop (rankH h l)
 | []=>rfl
 | a::l=>by
  unfold insH rankH
  split
  ·rw [insH_cut h l];simp
  ·simp
theorem rank_while {h:GHit}{xs:List GHit}{f:Int→Option (Int⊕Int)}(h1: ∀(i:Nat) x,xs[i]? =some x→f (i:Int)=some (if lessH x h then .inl ((i+1:Nat):Int) else .inr (i:Int)))
  (h0:f (xs.length:Int)=some (.inr (xs.length:Int))): ∀(k i F:Nat),i+k=xs.length→k<F→whileM f F (i:Int)=some ((i+rankH h (xs.drop i):Nat):Int)
 | 0,i,F,e,hF=>by
  obtain⟨F,rfl⟩: ∃G,F=G+1:=⟨F-1,by omega⟩
  rw [whileM,show i=xs.length by omega,h0,List.drop_eq_nil_of_le (by omega)];rfl
 | k+1,i,F,e,hF=>by
  obtain⟨F,rfl⟩: ∃G,F=G+1:=⟨F-1,by omega⟩
  have hi:i<xs.length:=by omega
  rw [whileM,h1 i xs[i] (List.getElem?_eq_getElem hi),List.drop_eq_getElem_cons hi,rankH]
  cases lessH xs[i] h with
  | true=>
   simp only [if_true,Option.bind_some,Sum.elim_inl]
   rw [rank_while h1 h0 k (i+1) F (by omega) (by omega)]
   congr 2;omega
  | false=>
   simp
theorem push_ok (F:Nat)(l:List GHit)(h:GHit)(m:Nat)(hl:l.length≤1000)(hF:2000<F):M.spec_l13Push F l h (m:Int)=some ((insH h l).take m):=by
 unfold M.spec_l13Push
 have hw: ∀f,(∀(i:Nat) x,l[i]? =some x→f (i:Int)=some (if lessH x h then .inl ((i+1:Nat):Int) else .inr (i:Int)))→f (l.length:Int)=some (.inr (l.length:Int))→whileM f F (0:Int)=some ((rankH h l:Nat):Int):=fun f a b=>by
  have:=rank_while (f:=f) a b l.length 0 F (by omega) (by omega)
  rwa [List.drop_zero,Nat.zero_add] at this
 rw [hw _ (fun i x hx=>?_) ?_]
 ·have hr:=rankH_le h l
  have c1:subL l 0 ((rankH h l:Nat):Int)=some (l.take (rankH h l)):=by
   unfold subL
   rw [if_pos ⟨by omega,by omega,by omega⟩]
   simp
  have c2:subL l ((rankH h l:Nat):Int) (l.length:Int)=some (l.drop (rankH h l)):=by
   unfold subL
   rw [if_pos ⟨by omega,by omega,by omega⟩]
   simp
  have l1:(l.take (rankH h l)).length≤1000:=by simp;omega
  have l2:(l.drop (rankH h l)).length≤1000:=by simp;omega
  have l0:([]:List GHit).length=0:=rfl
  rw [Option.bind_some,Option.bind_some,c1,Option.bind_some,catLok (by omega),List.nil_append,Option.bind_some,catLok (by simp only [List.length_singleton];omega),Option.bind_some,c2,Option.bind_some,
   catLok (by simp only [List.length_append,List.length_singleton];omega),Option.bind_some,←insH_cut h l,insH_len]
  by_cases hm:m<l.length+1
  ·rw [decide_eq_true (by omega),cond_true]
   unfold subL
   rw [if_pos ⟨by omega,by omega,by rw [insH_len];omega⟩]
   simp
  ·rw [decide_eq_false (by omega),cond_false,List.take_of_length_le (by rw [insH_len];omega)]
 ·rw [decide_eq_false (by omega)];rfl
 ·have hi:=(List.getElem?_eq_some_iff.1 hx).1
  rw [decide_eq_true (by omega),cond_true,getI_nat',hx,Option.bind_some,specLess,Option.bind_some,Option.bind_some,w64_succ' (by omega)]
  cases lessH x h<;>rfl
def sortH (l:List GHit):List GHit:=l.foldl (fun acc h=>insH h acc) []
theorem sort_gen: ∀(l acc:List GHit),SortedH acc→(∀x∈l,x∉acc)→l.Nodup→SortedH (l.foldl (fun acc h=>insH h acc) acc)∧(∀x,x∈l.foldl (fun acc h=>insH h acc) acc↔x∈acc∨x∈l)∧(l.foldl (fun acc h=>insH h acc) acc).length=acc.length+l.length
 | [],acc,hs,_,_=>⟨hs,by simp,by simp⟩
 | a::l,acc,hs,hn,hd=>by
  have hdc:=List.nodup_cons.1 hd
  have ih:=sort_gen l (insH a acc) (insH_sorted hs (hn a (by simp))) (fun x hx hm=>by
   rcases mem_insH.1 hm with rfl | hm
   ·exact hdc.1 hx
   ·exact hn x (by simp [hx]) hm) hdc.2
  refine⟨ih.1,fun x=>?_,?_⟩
  ·rw [List.foldl_cons,ih.2.1,mem_insH,List.mem_cons]
   constructor
   ·rintro ((h | h) | h)<;>simp [h]
   ·rintro (h | h | h)<;>simp [h]
  ·rw [List.foldl_cons,ih.2.2,insH_len,List.length_cons];omega
theorem sorted_eq: ∀{a b:List GHit},SortedH a→SortedH b→(∀x,x∈a↔x∈b)→a=b
 | [],[],_,_,_=>rfl
 | [],y::b,_,_,h=>by have:=(h y).2 (by simp);cases this
 | x::a,[],_,_,h=>by have:=(h x).1 (by simp);cases this
 | x::a,y::b,ha,hb,h=>by
  have hac:=List.pairwise_cons.1 ha
  have hbc:=List.pairwise_cons.1 hb
  have hxy:x=y:=by
   rcases List.mem_cons.1 ((h x).1 (by simp)) with e | hx
   ·exact e
   ·rcases List.mem_cons.1 ((h y).2 (by simp)) with e | hy
    ·exact e.symm
    ·have h1:=hbc.1 x hx
     have h2:=hac.1 y hy
     rw [lessH_asymm h1] at h2;cases h2
  subst hxy
  congr 1
  refine sorted_eq hac.2 hbc.2 fun z=>?_
  constructor
  ·intro hz
   rcases List.mem_cons.1 ((h z).1 (by simp [hz])) with e | hz'
   ·subst e
    have:=hac.1 z hz
    rw [lessH_irrefl] at this;cases this
   ·exact hz'
  ·intro hz
   rcases List.mem_cons.1 ((h z).2 (by simp [hz])) with e | hz'
   ·subst e
    have:=hbc.1 z hz
    rw [lessH_irrefl] at this;cases this
   ·exact hz'
theorem sortH_spec {l:List GHit}(hd:l.Nodup):SortedH (sortH l)∧(∀x,x∈sortH l↔x∈l)∧(sortH l).length=l.length:=by
 have:=sort_gen l [] List.Pairwise.nil (by simp) hd
 refine⟨this.1,fun x=>?_,by rw [sortH,this.2.2];simp⟩
 rw [sortH,this.2.1];simp
theorem sortO_hits (F:Nat){l:List GHit}(hd:l.Nodup)(hl:l.length≤1000000):sortO (fun a b=>M.impl_hitOrder F a b) l=some (sortH l):=by
 have hlt: ∀a b,ltO (fun a b=>M.impl_hitOrder F a b) a b=lessH a b:=ltO_less F
 have hok:sortOk (fun a b=>M.impl_hitOrder F a b) l=true:=by
  unfold sortOk
  simp only [hlt,Bool.and_eq_true,decide_eq_true_iff,List.all_eq_true]
  refine⟨⟨⟨⟨⟨by omega,fun x _ y _=>by rw [ord_ok];rfl⟩,fun x _=>by rw [lessH_irrefl];rfl⟩,fun x _ y _ z _=>?_⟩,fun x _ y _ z _=>?_⟩,?_⟩
  ·cases h1:lessH x y with
   | false=>simp
   | true=>
    cases h2:lessH y z with
    | false=>simp
    | true=>rw [lessH_trans h1 h2];rfl
  ·cases h1:lessH x y with
   | true=>simp
   | false=>
    cases h2:lessH y z with
    | true=>simp
    | false=>
     have:lessH x z=false:=by
      rw [Bool.eq_false_iff];intro h3
      have a1: ¬_:=fun q=>by rw [(lessH_iff x y).2 q] at h1;cases h1
      have a2: ¬_:=fun q=>by rw [(lessH_iff y z).2 q] at h2;cases h2
      rw [lessH_iff] at h3
      omega
     rw [this];rfl
  ·refine hd.imp fun {a b} hab=>?_
   cases h:lessH a b with
   | true=>exact .inl rfl
   | false=>exact .inr (lessH_neg h hab)
 unfold sortO
 rw [if_pos hok]
 congr 1
 have hperm:=List.mergeSort_perm l (fun x y=> !ltO (fun a b=>M.impl_hitOrder F a b) y x)
 have hs:=sortH_spec hd
 refine sorted_eq ?_ hs.1 (fun x=>by rw [hperm.mem_iff,hs.2.1])
 have hsorted:=List.pairwise_mergeSort (le:=fun x y=> !ltO (fun a b=>M.impl_hitOrder F a b) y x) (fun a b c h1 h2=>by
   simp only [hlt,Bool.not_eq_true'] at h1 h2 ⊢
   rw [Bool.eq_false_iff];intro h3
   have a1: ¬_:=fun q=>by rw [(lessH_iff b a).2 q] at h1;cases h1
   have a2: ¬_:=fun q=>by rw [(lessH_iff c b).2 q] at h2;cases h2
   rw [lessH_iff] at h3
   omega) (fun a b=>by
   simp only [hlt]
   cases h:lessH b a with
   | false=>rfl
   | true=>rw [lessH_asymm h];rfl) l
 have hnd:(l.mergeSort fun x y=> !ltO (fun a b=>M.impl_hitOrder F a b) y x).Nodup:=hperm.nodup_iff.2 hd
 refine(hsorted.and hnd).imp fun {a b} ⟨h1,h2⟩=>?_
 simp only [hlt,Bool.not_eq_true'] at h1
 exact lessH_neg h1 (fun e=>h2 e.symm)
theorem first_ok (F:Nat)(l:List GHit)(m:Nat)(hd:l.Nodup)(hl:l.length≤1000):M.impl_firstHits F l (m:Int)=some ((sortH l).take m):=by
 have hs:=sortH_spec hd
 unfold M.impl_firstHits
 rw [catLok (by simp only [List.length_nil];omega),List.nil_append,Option.bind_some,sortO_hits F hd (by omega),Option.bind_some]
 have hlen:=hs.2.2
 have hsub:subL (sortH l) 0 (if (m:Int)<((sortH l).length:Int) then (m:Int) else ((sortH l).length:Int))=some ((sortH l).take m):=by
  unfold subL
  by_cases hm:(m:Int)<((sortH l).length:Int)
  ·rw [if_pos hm,if_pos ⟨by omega,by omega,by omega⟩];simp
  ·rw [if_neg hm,if_pos ⟨by omega,by omega,by omega⟩,List.take_of_length_le (i:=m) (by omega)];simp
 rw [hsub,Option.bind_some,catLok (by simp only [List.length_nil,List.length_take];omega)]
 rfl
end Go.Fk
namespace Go.Fk
open Go
def docIn (l:List GHit)(id:Int):Bool:=l.any fun h=>h.Doc==id
theorem hasDoc_ok (F:Nat)(l:List GHit)(id:Int):M.impl_hasDoc F l id=some (docIn l id):=by
 unfold M.impl_hasDoc M.slices_ContainsFunc_Hit__impl_hasDoc_1 M.slices_IndexFunc_Hit__impl_hasDoc_1 docIn
 have key: ∀(f:Nat→Unit→Option (Unit⊕Int)),(∀i x,l[i]? =some x→f i ()=some (if x.Doc==id then .inr ((i:Nat):Int) else .inl ()))→∀k i,i+k=l.length→
   ∃r,forFrom f k i ()=some r∧(match r with | .inl _=>(l.drop i).any (fun h=>h.Doc==id)=false | .inr z=>0≤z∧(l.drop i).any (fun h=>h.Doc==id)=true):=by
  intro f hf k
  induction k with
  | zero=>
   intro i e
   refine⟨.inl (),rfl,?_⟩
   rw [List.drop_eq_nil_of_le (by omega)];rfl
  | succ k ih=>
   intro i e
   have hi:i<l.length:=by omega
   rw [forFrom,hf i l[i] (List.getElem?_eq_getElem hi),List.drop_eq_getElem_cons hi,List.any_cons]
   cases h:l[i].Doc==id with
   | true=>exact⟨.inr (i:Int),rfl,by simp⟩
   | false=>
    obtain⟨r,h1,h2⟩:=ih (i+1) (by omega)
    refine⟨r,?_,?_⟩
    ·simpa using h1
    ·simpa using h2
 obtain⟨r,h1,h2⟩:=key (fun (i:Nat) (_:Unit)=>Option.bind (getI l (i:Int)) fun x=>Option.bind (M.impl_hasDoc_1 F x id) fun b=>cond b (some (.inr (i:Int))) (some (.inl ()))) (fun i x hx=>by
  show Option.bind _ _=_
  rw [getI_nat',hx,Option.bind_some]
  unfold M.impl_hasDoc_1
  rw [Option.bind_some]
  cases x.Doc==id<;>rfl) l.length 0 (by omega)
 rw [List.drop_zero] at h2
 rw [h1]
 cases r with
 | inl u=>
  simp only at h2
  rw [h2];rfl
 | inr z=>
  simp only at h2
  rw [h2.2]
  simp [h2.1]
def hitP (l:List GHit)(q:GHit×Nat):Bool:=
 (decide (1≤q.1.Doc)&&decide (q.1.Doc≤9999))&&(!decide (q.1.Points<1)&&(!docIn (l.take q.2) q.1.Doc&&(decide (q.2=0)||((l[q.2-1]?).elim true fun g=>lessH g q.1))))
def hitsS (l:List GHit):Bool:=l.zipIdx.all (hitP l)&&decide ((l.length:Int)≤16)
theorem subL_take {α:Type}{l:List α}{i:Nat}(h:i≤l.length):subL l 0 (i:Int)=some (l.take i):=by
 unfold subL
 rw [if_pos ⟨by omega,by omega,by omega⟩]
 simp
theorem implHits (F:Nat)(l:List GHit)(hl:l.length≤1000000):M.impl_HitsOk F l=some (hitsS l):=by
 unfold M.impl_HitsOk hitsS
 have hz:l.length=l.zipIdx.length:=by simp
 rw [all_from (p:=hitP l) (xs:=l.zipIdx) (fun i q hq=>?_) l.length 0 (by omega),List.drop_zero]
 ·cases l.zipIdx.all (hitP l)<;>rfl
 ·obtain⟨hx,hi⟩:=zipAt hq
  have hlt:=(List.getElem?_eq_some_iff.1 hx).1
  rw [getI_nat',hx,Option.bind_some,withinS,Option.bind_some]
  unfold hitP
  rw [hi]
  cases (decide (1≤q.1.Doc)&&decide (q.1.Doc≤9999)) with
  | false=>rfl
  | true=>
   rw [Bool.not_true,cond_false]
   cases decide (q.1.Points<1) with
   | true=>rfl
   | false=>
    rw [cond_false,subL_take (by omega),Option.bind_some,hasDoc_ok,Option.bind_some]
    cases docIn (l.take i) q.1.Doc with
    | true=>rfl
    | false=>
     rw [cond_false]
     by_cases h0:i=0
     ·subst h0;rfl
     ·rw [decide_eq_true (show (0:Int)<(i:Int) by omega),cond_true,w64_pred (by omega) (by omega),getI_nat',List.getElem?_eq_getElem (show i-1<l.length by omega),Option.bind_some,ord_ok,Option.bind_some,ordH_nonneg,decide_eq_false h0]
      simp only [Option.elim_some,Bool.false_or,Option.bind_some]
      cases lessH l[i-1] q.1<;>rfl
structure Hits (l:List GHit):Prop where
 rng: ∀h∈l,(1≤h.Doc∧h.Doc≤9999)∧1≤h.Points
 sorted:SortedH l
 docs:l.Pairwise fun a b=>a.Doc≠b.Doc
 few:l.length≤16
theorem hits_iff (l:List GHit):hitsS l=true↔Hits l:=by
 unfold hitsS
 rw [Bool.and_eq_true,decide_eq_true_iff,List.all_eq_true]
 constructor
 ·rintro⟨h,hl⟩
  have hat: ∀i,(hi:i<l.length)→hitP l (l[i],i)=true:=fun i hi=>h (l[i],i) (by
   rw [List.mem_iff_getElem?]
   exact⟨i,by rw [List.getElem?_zipIdx,List.getElem?_eq_getElem hi];simp⟩)
  have hat': ∀i,(hi:i<l.length)→(1≤l[i].Doc∧l[i].Doc≤9999)∧1≤l[i].Points∧docIn (l.take i) l[i].Doc=false∧(i=0∨((l[i-1]?).elim true fun g=>lessH g l[i])=true):=fun i hi=>by
   have:=hat i hi
   unfold hitP at this
   simp only [Bool.and_eq_true,Bool.or_eq_true,decide_eq_true_iff,Bool.not_eq_true',decide_eq_false_iff_not] at this
   exact⟨this.1,by omega,this.2.2.1,this.2.2.2⟩
  have hadj: ∀l:List GHit,(∀i,(hi:i+1<l.length)→lessH l[i] l[i+1]=true)→SortedH l:=by
   intro l
   induction l with
   | nil=>intro _;exact List.Pairwise.nil
   | cons a l ih=>
    intro hl
    have ih':=ih (fun i hi=>by have:=hl (i+1) (by simp only [List.length_cons];omega);simpa using this)
    refine List.pairwise_cons.2 ⟨fun c hc=>?_,ih'⟩
    cases l with
    | nil=>cases hc
    | cons b l=>
     have hab:lessH a b=true:=hl 0 (by simp)
     rcases List.mem_cons.1 hc with rfl | hc
     ·exact hab
     ·exact lessH_trans hab ((List.pairwise_cons.1 ih').1 c hc)
  refine⟨fun x hx=>?_,hadj l fun i hi=>?_,?_,by omega⟩
  ·obtain⟨i,hi,rfl⟩:=List.mem_iff_getElem.1 hx
   have:=hat' i hi
   exact⟨this.1,this.2.1⟩
  ·have:=(hat' (i+1) hi).2.2.2
   rw [Nat.add_sub_cancel,List.getElem?_eq_getElem (show i<l.length by omega)] at this
   exact this.resolve_left (by omega)
  ·rw [List.pairwise_iff_getElem]
   intro i j hi hj hij e
   have:=(hat' j hj).2.2.1
   unfold docIn at this
   rw [List.any_eq_false] at this
   have hm:l[i]∈l.take j:=by
    rw [List.mem_iff_getElem?]
    exact⟨i,by rw [List.getElem?_take,if_pos hij,List.getElem?_eq_getElem hi]⟩
   have:=this _ hm
   rw [e] at this
   simp at this
 ·rintro⟨h1,h2,h3,h4⟩
  refine⟨fun q hq=>?_,by omega⟩
  obtain⟨i,hi⟩:=List.mem_iff_getElem?.1 hq
  obtain⟨hx,hqi⟩:=zipAt hi
  have hlt:=(List.getElem?_eq_some_iff.1 hx).1
  have he:=(List.getElem?_eq_some_iff.1 hx).2
  obtain⟨r1,r2⟩:=h1 q.1 (List.mem_of_getElem? hx)
  unfold hitP
  rw [hqi]
  simp only [Bool.and_eq_true,Bool.or_eq_true,decide_eq_true_iff,Bool.not_eq_true',decide_eq_false_iff_not]
  refine⟨r1,by omega,?_,?_⟩
  ·unfold docIn
   rw [List.any_eq_false]
   intro y hy
   obtain⟨k,hk⟩:=List.mem_iff_getElem?.1 hy
   have hk1:=(List.getElem?_eq_some_iff.1 hk).1
   rw [List.length_take] at hk1
   rw [List.getElem?_take,if_pos (by omega)] at hk
   have hk2:=(List.getElem?_eq_some_iff.1 hk).2
   have:=List.pairwise_iff_getElem.1 h3 k i (by omega) hlt (by omega)
   rw [hk2,he] at this
   simpa using this
  ·by_cases h0:i=0
   ·exact .inl h0
   ·refine .inr ?_
    rw [List.getElem?_eq_getElem (show i-1<l.length by omega)]
    have:=List.pairwise_iff_getElem.1 h2 (i-1) i (by omega) hlt (by omega)
    rw [he] at this
    exact this
theorem nodup_docs {l:List GHit}(h:l.Pairwise fun a b=>a.Doc≠b.Doc):l.Nodup:=h.imp fun {a b} hab e=>hab (by rw [e])
end Go.Fk
namespace Go.Fk
open Go
theorem sortH_snoc (acc:List GHit)(h:GHit):sortH (acc++[h])=insH h (sortH acc):=by
 unfold sortH
 rw [List.foldl_append];rfl
end Go.Fk
