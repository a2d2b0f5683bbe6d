/-
  The best of what a question finds: of all, and those behind a hit. Plain lists.
-/
import Derived.Test.YtnloenhmkdpgeaaGreatDoorModelLTopLess
import Derived.Test.YtnloenhmkdpgeaaGreatDoorModelLTopOf
import Derived.Test.YtnloenhmkdpgeaaGreatDoorLawTopQ
import Derived.Test.YtnloenhmkdpgeaaGreatDoorLawPlace
set_option linter.unusedVariables false
namespace Go.Fk
open Go
def a8K (a b:E3):Bool:=a.Doc==b.Doc&&a.Points==b.Points
theorem b5h (a b:E3):a8K a b=true↔a=b:=by
 unfold a8K
 rw [q8,beq_iff_eq,beq_iff_eq]
 cases a;cases b
 simp
theorem b8a {l:List E3}(h:l.Pairwise fun a b=>a.Doc≠b.Doc):l.Nodup:=h.imp fun {a b} hab e=>hab (by rw [e])
theorem b7I (p:E3→Bool){H:List E3}(hd:H.Nodup):I2 (H.filter p)=(I2 H).filter p:=by
 obtain⟨s1,s2,_⟩:=a42 hd
 obtain⟨f1,f2,_⟩:=a42 (hd.filter p)
 refine b1M f1 (s1.filter p) fun x=>?_
 rw [f2,List.mem_filter,List.mem_filter,s2]
theorem c06 {H:List E3}{m:Nat}(hp:H.Pairwise fun a b=>a.Doc≠b.Doc)(hr: ∀h∈H,(1≤h.Doc∧h.Doc≤9999)∧1≤h.Points)(hm:m≤16):
  c4q ((I2 H).take m)∧(H.filter fun h=>((I2 H).take m).any fun g=>a8K g h).length=((I2 H).take m).length∧
   ∀h∈H,(((I2 H).take m).any fun g=>a8K g h)=false→((I2 H).take m).length=m∧∀g∈(I2 H).take m,P1 h g=false:=by
 have hnd:=b8a hp
 obtain⟨s1,s2,s3⟩:=a42 hnd
 have hsnd:(I2 H).Nodup:=s1.imp fun {a b} hab e=>by rw [e,a4w] at hab;cases hab
 have hsub: ∀x∈(I2 H).take m,x∈H:=fun x hx=>(s2 x).1 (List.mem_of_mem_take hx)
 have hmem: ∀h,((I2 H).take m).any (fun g=>a8K g h)=true↔h∈(I2 H).take m:=fun h=>by
  rw [List.any_eq_true]
  constructor
  ·rintro⟨g,hg,e⟩;rw [←(b5h g h).1 e];exact hg
  ·intro hh;exact⟨h,hh,(b5h h h).2 rfl⟩
 refine⟨⟨fun x hx=>hr x (hsub x hx),s1.sublist (List.take_sublist _ _),?_,by rw [List.length_take];omega⟩,?_,fun h hh hno=>?_⟩
 ·rw [List.pairwise_iff_getElem]
  intro i j hi hj hij e
  have h1:=hsub _ (List.getElem_mem hi)
  have h2:=hsub _ (List.getElem_mem hj)
  have hne:((I2 H).take m)[i]≠((I2 H).take m)[j]:=List.pairwise_iff_getElem.1 (hsnd.sublist (List.take_sublist _ _)) i j hi hj hij
  obtain⟨a,ha,ea⟩:=List.mem_iff_getElem.1 h1
  obtain⟨b,hb,eb⟩:=List.mem_iff_getElem.1 h2
  rw [←ea,←eb] at e hne
  rcases Nat.lt_trichotomy a b with q | q | q
  ·exact List.pairwise_iff_getElem.1 hp a b ha hb q e
  ·subst q;exact hne rfl
  ·exact List.pairwise_iff_getElem.1 hp b a hb ha q e.symm
 ·refine List.Perm.length_eq ((List.perm_ext_iff_of_nodup (hnd.filter _) (hsnd.sublist (List.take_sublist _ _))).2 fun x=>?_)
  rw [List.mem_filter,hmem]
  exact⟨fun q=>q.2,fun q=>⟨hsub x q,q⟩⟩
 ·have hnot: ¬h∈(I2 H).take m:=fun q=>by rw [(hmem h).2 q] at hno;cases hno
  have hin:h∈I2 H:=(s2 h).2 hh
  rw [←List.take_append_drop m (I2 H)] at hin
  have hd:=(List.mem_append.1 hin).resolve_left hnot
  have hlen:m<(I2 H).length:=by
   have:=List.length_pos_of_mem hd
   rw [List.length_drop] at this;omega
  refine⟨by rw [List.length_take];omega,fun g hg=>?_⟩
  have hs1:=s1
  rw [←List.take_append_drop m (I2 H)] at hs1
  exact a8n ((List.pairwise_append.1 hs1).2.2 g hg h hd)
theorem b8c (c:u6)(s:A5)(d:Nat)(q:q7):(G6 c s d q).Pairwise fun a b=>a.Doc≠b.Doc:=by
 have key: ∀{l:List A1},(l.Pairwise fun a b=>a.Id<b.Id)→(l.flatMap (a3T c s d q)).Pairwise fun a b=>a.Doc<b.Doc:=by
  intro l
  induction l with
  | nil=>intro _;exact List.Pairwise.nil
  | cons x r ih=>
   intro h
   obtain⟨h1,h2⟩:=List.pairwise_cons.1 h
   rw [List.flatMap_cons]
   refine List.pairwise_append.2 ⟨?_,ih h2,fun a ha b hb=>?_⟩
   ·unfold a3T
    split
    ·exact List.pairwise_singleton _ _
    ·exact List.Pairwise.nil
   ·obtain⟨y,hy,hp⟩:=List.mem_flatMap.1 hb
    unfold a3T at ha hp
    split at ha
    ·split at hp
     ·rw [List.mem_singleton.1 ha,List.mem_singleton.1 hp]
      exact h1 y hy
     ·cases hp
    ·cases ha
 unfold G6
 split
 ·rename_i ho
  exact(key (a0Q (a0w ho).2.1).2.2).imp fun h=>by omega
 ·exact List.Pairwise.nil
theorem c0b {c:u6}{s:A5}{d:Nat}{q:q7}: ∀h∈G6 c s d q,(1≤h.Doc∧h.Doc≤9999)∧1≤h.Points:=fun h hh=>by
 have ho:G9 c s=true:=by
  unfold G6 at hh
  split at hh
  ·assumption
  ·cases hh
 obtain⟨x,hx,rfl,h0⟩:=a84 hh
 exact⟨(a0Q (a0w ho).2.1).2.1 x hx,by show 1≤C2 c s d q x;omega⟩
theorem a78 {α:Type}(p:α→Bool): ∀l:List α,(l.flatMap fun x=>if p x then [x] else [])=l.filter p
 | []=>rfl
 | x::l=>by
  rw [List.flatMap_cons,a78 p l]
  cases h:p x with
  | true=>rw [if_pos rfl,List.filter_cons_of_pos h];rfl
  | false=>rw [if_neg (by decide),List.filter_cons_of_neg (by rw [h];decide)];rfl
theorem c0a {c:u6}{s:A5}{d:Nat}{q:q7}{y:E3}(ho:G9 c s=true)(hy:y∈G6 c s d q):L7 c s d q y.Doc=y.Points:=by
 obtain⟨x,hx,rfl,_⟩:=a84 hy
 unfold L7
 rw [if_pos ho,a5V ho hx];rfl
theorem b7V: ∀(l:List E3) (q:E3→Bool),(l.map fun h=>if q h then 1 else 0).sum=(l.filter q).length
 | [],_=>rfl
 | a::l,q=>by
  rw [List.map_cons,List.sum_cons,b7V l q]
  cases h:q a with
  | true=>rw [List.filter_cons_of_pos h,if_pos rfl,s6];omega
  | false=>rw [List.filter_cons_of_neg (by rw [h];decide),if_neg (by decide)];omega
theorem c0p (code:List UInt8): ∃F,a4m F code=some true:=by
 refine⟨2000000000,?_⟩
 generalize hF:2000000000=F
 unfold a4m
 cases decide ((1048576:Int)<(code.length:Int))
 case true=>rfl
 obtain⟨c,s,q,m,h1,hc,hs,hq⟩:=a4u F code (by omega)
 have hl:=hs.few
 have hst:=hc.stops.1
 have hlen:=b05 c s 3 q m
 rw [i6,h1,a8]
 dsimp only
 rw [a4a F m hq (by omega) (by omega) (by omega) (by omega),a8,a9b F m hq (by omega) hs hc (by omega),a8,a2r F _ (by omega) (by omega),a8,l7,i6,a1T F c s (by omega) (by omega) (by omega),a8,a8,a2r F _ (by omega) (by omega),a8]
 cases ho:G9 c s with
 | false=>rfl
 | true=>
 rw [l7,i6]
 by_cases hm1:m<1
 ·rw [b8 hm1];rfl
 rw [c6 hm1,i6,a8]
 by_cases hm2:16<m
 ·rw [b8 hm2];rfl
 rw [c6 hm2,i6,a23 F hq (by omega) (by omega) (by omega) (by omega),a8]
 have hlist:a7h c s 3 q m=(I2 (G6 c s 3 q)).take m.toNat:=by
  unfold a7h
  rw [b8 (by omega),b8 (by omega)];rfl
 obtain⟨g4,g6,g7⟩:=c06 (m:=m.toNat) (b8c c s 3 q) c0b (by omega)
 have hlm:((I2 (G6 c s 3 q)).take m.toNat).length≤m.toNat:=by rw [List.length_take];omega
 rw [hlist] at hlen ⊢
 have hh:=c1S F ((I2 (G6 c s 3 q)).take m.toNat) (by omega)
 rw [(c1R _).2 g4] at hh
 have hH:=a1y c s 3 q
 generalize (I2 (G6 c s 3 q)).take m.toNat=x at *
 have hone:=b7V (G6 c s 3 q) fun h=>x.any fun g=>a8K g h
 have key2: ∀f:Int×Int→Option ((Int×Int)⊕(Int⊕Bool)),(∀(j n:Nat) h,(G6 c s 3 q)[j]? =some h→n+(if (x.any fun g=>a8K g h) then 1 else 0)≤10000→f ((n:Int),(j:Int))=some (.inl (((n+(if (x.any fun g=>a8K g h) then 1 else 0):Nat):Int),((j+1:Nat):Int))))→
   (∀n:Nat,f ((n:Int),((G6 c s 3 q).length:Int))=some (.inr (.inl (n:Int))))→y2 f F ((0:Int),(0:Int))=some (.inl (x.length:Int)):=fun f h h0=>by
  have:=b5p (w:=fun h:E3=>if (x.any fun g=>a8K g h) then 1 else 0) h h0 (G6 c s 3 q).length 0 0 F (by omega) (by omega) (by rw [List.drop_zero,hone,g6];omega)
  rw [List.drop_zero,hone,g6,Nat.zero_add] at this
  exact this
 rw [key2 _ (fun j n' y hy hb'=>?_) (fun n'=>?_)]
 ·simp only [a8,Sum.elim_inl]
  rw [hh,a8,j4,beq_self_eq_true,j4,b8 (by omega)]
 ·have hj:=(i4.1 hy).1
  have hym:y∈G6 c s 3 q:=n5 hy
  have hget:v8 ((G6 c s 3 q).map (·.Doc)) (j:Int)=some y.Doc:=by rw [n8,List.getElem?_map,hy];rfl
  dsimp only
  rw [List.length_map,b8 (by omega),j4,hget,a8,a8,a1U F _ hq (by omega) (by omega) (by omega) (by omega),a8,c0a ho hym,a8,c6G (p:=fun g:E3=>a8K g y) (xs:=x) F (by omega) (fun k z b hz=>?_) (fun b=>?_),a8,a8,y5 (by omega),y5 (by omega)]
  ·cases hq:x.any fun g=>a8K g y with
   | true=>rfl
   | false=>
    obtain⟨u1,u2⟩:=g7 y hym hq
    rw [i6,c6 (by omega),i6,a0y (by omega) (by omega),T5 (by omega),a8,c1n,a8,a8,u2 _ (List.getElem_mem _)]
    rfl
  ·have hk:=(i4.1 hz).1
   dsimp only
   rw [b8 (by omega),j4,y5 (by omega),n8,hz]
   cases b<;>rfl
  ·dsimp only
   rw [c6 (by omega)];rfl
 ·dsimp only
  rw [List.length_map,c6 (by omega)];rfl
theorem c0c {c:u6}{s:A5}{d:Nat}{q p:q7}(ho:G9 c s=true):G6 c s (d+1) ⟨9,[],[],0,0,[q,p]⟩=(G6 c s d q).filter fun h=> !((G6 c s d p).map (·.Doc)).any (· ==h.Doc):=by
 have hids:=(a0Q (a0w ho).2.1).2.2
 have hin: ∀x∈s.Docs,((G6 c s d p).map (·.Doc)).any (· ==x.Id)=decide (0<C2 c s d p x):=fun x hx=>by
  rw [Bool.eq_iff_iff,List.any_eq_true,decide_eq_true_eq]
  constructor
  ·rintro⟨i,hi,he⟩
   obtain⟨h,hh,rfl⟩:=List.mem_map.1 hi
   obtain⟨y,hy,rfl,h0⟩:=a84 hh
   have e1:=a5V ho hx
   have e2:=a5V ho hy
   have:y.Id=x.Id:=eq_of_beq he
   rw [this] at e2
   rw [e1] at e2
   rw [Option.some.inj e2];exact h0
  ·intro h0
   refine⟨x.Id,List.mem_map.2 ⟨⟨x.Id,C2 c s d p x⟩,?_,rfl⟩,beq_self_eq_true _⟩
   unfold G6
   rw [if_pos ho]
   refine List.mem_flatMap.2 ⟨x,hx,?_⟩
   unfold a3T
   rw [b8 h0,if_pos rfl]
   exact List.mem_singleton.2 rfl
 generalize hg:((G6 c s d p).map (·.Doc))=gone at hin ⊢
 unfold G6
 rw [if_pos ho,if_pos ho]
 have key: ∀l:List A1,(∀x∈l,x∈s.Docs)→l.flatMap (a3T c s (d+1) ⟨9,[],[],0,0,[q,p]⟩)=(l.flatMap (a3T c s d q)).filter fun h=> !gone.any (· ==h.Doc):=by
  intro l
  induction l with
  | nil=>intro _;rfl
  | cons x r ih=>
   intro hx
   rw [List.flatMap_cons,List.flatMap_cons,List.filter_append,ih fun y hy=>hx y (List.mem_cons_of_mem _ hy)]
   congr 1
   have e:C2 c s (d+1) ⟨9,[],[],0,0,[q,p]⟩ x=if 0<C2 c s d p x then 0 else C2 c s d q x:=rfl
   have hm:=hin x (hx x (List.mem_cons_self ..))
   unfold a3T
   rw [e]
   by_cases hp:0<C2 c s d p x
   ·rw [b8 hp] at hm
    rw [if_pos hp,c6 (by omega),if_neg (by decide)]
    split
    ·rw [List.filter_cons_of_neg (by rw [hm];decide)];rfl
    ·rfl
   ·rw [c6 hp] at hm
    rw [if_neg hp]
    split
    ·rw [List.filter_cons_of_pos (by rw [hm];rfl)];rfl
    ·rfl
 exact key s.Docs fun x hx=>hx
theorem b61 (code more:List UInt8): ∃F,a3j F code more=some true:=by
 refine⟨2000000000,?_⟩
 generalize hF:2000000000=F
 unfold a3j
 cases decide ((1048576:Int)<(code.length:Int))
 case true=>rfl
 cases decide ((1048576:Int)<(more.length:Int))
 case true=>rfl
 obtain⟨c,s,q,m,h1,hc,hs,hq⟩:=a4u F code (by omega)
 obtain⟨c',s',p,m',h1',_,_,hp⟩:=a4u F more (by omega)
 have hl:=hs.few
 have hst:=hc.stops.1
 have hlen:=b05 c s 3 q m
 have gt:I3 4 ⟨9,[],[],0,0,[q,p]⟩:=.less hq hp
 rw [i6,a8,i6,h1,a8,h1',a8]
 dsimp only
 rw [a4a F m hq (by omega) (by omega) (by omega) (by omega),a8,a9b F m hq (by omega) hs hc (by omega),a8,a2r F _ (by omega) (by omega),a8,l7,i6,a1T F c s (by omega) (by omega) (by omega),a8,a8,a2r F _ (by omega) (by omega),a8]
 cases ho:G9 c s with
 | false=>rfl
 | true=>
 have hall: ∀(d:Nat) (k:q7),a7h c s d k 16=I2 (G6 c s d k):=fun d k=>by
  have hh:=a1y c s d k
  unfold a7h
  rw [if_pos (by decide)]
  exact List.take_of_length_le (by rw [a4e];show _≤16;omega)
 have hsub:((I2 (G6 c s 3 q)).filter fun h=> !((G6 c s 3 p).map (·.Doc)).any (· ==h.Doc)).length≤16:=by
  have:=List.length_filter_le (fun h:E3=> !((G6 c s 3 p).map (·.Doc)).any (· ==h.Doc)) (I2 (G6 c s 3 q))
  have:=a1y c s 3 q
  rw [a4e] at *;omega
 have hH:=a1y c s 3 p
 have hH':=a1y c s 3 q
 have hsl:=a4e (G6 c s 3 q)
 rw [l7,i6,a65 F gt (by omega) (by omega),a8,l7,a8,i6,a23 F hp (by omega) (by omega) (by omega) (by omega),a8,a4a F 16 hq (by omega) (by omega) (by omega) (by omega),a8,hall 3 q,
  a5W (xs:=I2 (G6 c s 3 q)) (fun h=>if !((G6 c s 3 p).map (·.Doc)).any (· ==h.Doc) then [h] else []) 100 F (by omega) (fun i x acc hx hB=>?_) (fun acc=>?_) [] (by rw [List.nil_append,a78];omega),List.nil_append,a8,a8,a4a F 16 gt (by omega) (by omega) (by omega) (by omega),a8,hall 4,c0c ho,b7I _ (a8e c s 3 q),a78]
 ·rw [a2r F _ (by omega) (by omega),a8]
 ·have hi:=(i4.1 hx).1
  rw [b8 (by omega),j4,n8,hx,a8,c4b F _ _ (by rw [List.length_map];omega) (by omega),a8]
  generalize ((G6 c s 3 p).map (·.Doc)).any (· ==x.Doc)=b at hB ⊢
  cases b with
  | true=>rw [l7,i6,if_neg (by decide),List.append_nil,y5 (by omega)]
  | false=>
   rw [Bool.not_false,if_pos rfl,o0,l8] at hB
   rw [Bool.not_false,j4,a8,H4 (by simp only [l8];omega),a8,if_pos rfl,y5 (by omega)]
 ·rw [c6 (by omega)];rfl
end Go.Fk
