/-
  The best of what a question finds: of all, and those behind a hit. Plain lists.
-/
import Derived.Test.YtnloenhmkdpgeaaGreatDoorModelLTopLess
import Derived.Test.YtnloenhmkdpgeaaGreatDoorLawTopQ
import Derived.Test.YtnloenhmkdpgeaaGreatDoorLawPlace
set_option linter.unusedVariables false
namespace Go.Fk
open Go
theorem b7I (p:E3→Bool){H:List E3}(hd:H.Nodup):I2 (H.filter p)=(I2 H).filter p:=by
 obtain⟨s1,s2,_⟩:=a42 hd
 obtain⟨f1,f2,_⟩:=a42 (hd.filter p)
 refine b1M f1 (s1.filter p) fun x=>?_
 rw [f2,List.mem_filter,List.mem_filter,s2]
theorem a78 {α:Type}(p:α→Bool): ∀l:List α,(l.flatMap fun x=>if p x then [x] else [])=l.filter p
 | []=>rfl
 | x::l=>by
  rw [List.flatMap_cons,a78 p l]
  cases h:p x with
  | true=>rw [if_pos rfl,List.filter_cons_of_pos h];rfl
  | false=>rw [if_neg (by decide),List.filter_cons_of_neg (by rw [h];decide)];rfl
theorem c0c {c:u6}{s:A5}{d:Nat}{q p:q7}(ho:G9 c s=true):G6 c s (d+1) ⟨9,[],[],0,0,[q,p]⟩=(G6 c s d q).filter fun h=> !((G6 c s d p).map (·.Doc)).any (· ==h.Doc):=by
 have hids:=(a0Q (a0w ho).2.1).2.2
 have hin: ∀x∈s.Docs,((G6 c s d p).map (·.Doc)).any (· ==x.Id)=decide (0<C2 c s d p x):=fun x hx=>by
  rw [Bool.eq_iff_iff,List.any_eq_true,decide_eq_true_eq]
  constructor
  ·rintro⟨i,hi,he⟩
   obtain⟨h,hh,rfl⟩:=List.mem_map.1 hi
   obtain⟨y,hy,rfl,h0⟩:=a84 hh
   have e1:=a5V ho hx
   have e2:=a5V ho hy
   have:y.Id=x.Id:=eq_of_beq he
   rw [this] at e2
   rw [e1] at e2
   rw [Option.some.inj e2];exact h0
  ·intro h0
   refine⟨x.Id,List.mem_map.2 ⟨⟨x.Id,C2 c s d p x⟩,?_,rfl⟩,beq_self_eq_true _⟩
   unfold G6
   rw [if_pos ho]
   refine List.mem_flatMap.2 ⟨x,hx,?_⟩
   unfold a3T
   rw [b8 h0,if_pos rfl]
   exact List.mem_singleton.2 rfl
 generalize hg:((G6 c s d p).map (·.Doc))=gone at hin ⊢
 unfold G6
 rw [if_pos ho,if_pos ho]
 have key: ∀l:List A1,(∀x∈l,x∈s.Docs)→l.flatMap (a3T c s (d+1) ⟨9,[],[],0,0,[q,p]⟩)=(l.flatMap (a3T c s d q)).filter fun h=> !gone.any (· ==h.Doc):=by
  intro l
  induction l with
  | nil=>intro _;rfl
  | cons x r ih=>
   intro hx
   rw [List.flatMap_cons,List.flatMap_cons,List.filter_append,ih fun y hy=>hx y (List.mem_cons_of_mem _ hy)]
   congr 1
   have e:C2 c s (d+1) ⟨9,[],[],0,0,[q,p]⟩ x=if 0<C2 c s d p x then 0 else C2 c s d q x:=rfl
   have hm:=hin x (hx x (List.mem_cons_self ..))
   unfold a3T
   rw [e]
   by_cases hp:0<C2 c s d p x
   ·rw [b8 hp] at hm
    rw [if_pos hp,c6 (by omega),if_neg (by decide)]
    split
    ·rw [List.filter_cons_of_neg (by rw [hm];decide)];rfl
    ·rfl
   ·rw [c6 hp] at hm
    rw [if_neg hp]
    split
    ·rw [List.filter_cons_of_pos (by rw [hm];rfl)];rfl
    ·rfl
 exact key s.Docs fun x hx=>hx
theorem b61 (code more:List UInt8): ∃F,a3j F code more=some true:=by
 refine⟨2000000000,?_⟩
 generalize hF:2000000000=F
 unfold a3j
 cases decide ((1048576:Int)<(code.length:Int))
 case true=>rfl
 cases decide ((1048576:Int)<(more.length:Int))
 case true=>rfl
 obtain⟨c,s,q,m,h1,hc,hs,hq⟩:=a4u F code (by omega)
 obtain⟨c',s',p,m',h1',_,_,hp⟩:=a4u F more (by omega)
 have hl:=hs.few
 have hst:=hc.stops.1
 have hlen:=b05 c s 3 q m
 have gt:I3 4 ⟨9,[],[],0,0,[q,p]⟩:=.less hq hp
 rw [i6,a8,i6,h1,a8,h1',a8]
 dsimp only
 rw [a4a F m hq (by omega) (by omega) (by omega) (by omega),a8,a9b F m hq (by omega) hs hc (by omega),a8,a2r F _ (by omega) (by omega),a8,l7,i6,a1T F c s (by omega) (by omega) (by omega),a8,a8,a2r F _ (by omega) (by omega),a8]
 cases ho:G9 c s with
 | false=>rfl
 | true=>
 have hall: ∀(d:Nat) (k:q7),a7h c s d k 16=I2 (G6 c s d k):=fun d k=>by
  have hh:=a1y c s d k
  unfold a7h
  rw [if_pos (by decide)]
  exact List.take_of_length_le (by rw [a4e];show _≤16;omega)
 have hsub:((I2 (G6 c s 3 q)).filter fun h=> !((G6 c s 3 p).map (·.Doc)).any (· ==h.Doc)).length≤16:=by
  have:=List.length_filter_le (fun h:E3=> !((G6 c s 3 p).map (·.Doc)).any (· ==h.Doc)) (I2 (G6 c s 3 q))
  have:=a1y c s 3 q
  rw [a4e] at *;omega
 have hH:=a1y c s 3 p
 have hH':=a1y c s 3 q
 have hsl:=a4e (G6 c s 3 q)
 rw [l7,i6,a65 F gt (by omega) (by omega),a8,l7,a8,i6,a23 F hp (by omega) (by omega) (by omega) (by omega),a8,a4a F 16 hq (by omega) (by omega) (by omega) (by omega),a8,hall 3 q,
  a5W (xs:=I2 (G6 c s 3 q)) (fun h=>if !((G6 c s 3 p).map (·.Doc)).any (· ==h.Doc) then [h] else []) 100 F (by omega) (fun i x acc hx hB=>?_) (fun acc=>?_) [] (by rw [List.nil_append,a78];omega),List.nil_append,a8,a8,a4a F 16 gt (by omega) (by omega) (by omega) (by omega),a8,hall 4,c0c ho,b7I _ (a8e c s 3 q),a78]
 ·rw [a2r F _ (by omega) (by omega),a8]
 ·have hi:=(i4.1 hx).1
  rw [b8 (by omega),j4,n8,hx,a8,c4b F _ _ (by rw [List.length_map];omega) (by omega),a8]
  generalize ((G6 c s 3 p).map (·.Doc)).any (· ==x.Doc)=b at hB ⊢
  cases b with
  | true=>rw [l7,i6,if_neg (by decide),List.append_nil,y5 (by omega)]
  | false=>
   rw [Bool.not_false,if_pos rfl,o0,l8] at hB
   rw [Bool.not_false,j4,a8,H4 (by simp only [l8];omega),a8,if_pos rfl,y5 (by omega)]
 ·rw [c6 (by omega)];rfl
end Go.Fk
