/-
  The best of what a question finds: few of them, and so many times. The laws, on the models.
-/
import Derived.Test.YtepcfgnicnibnaaGreatDoorLawScoreT
import Derived.Test.YtepcfgnicnibnaaGreatDoorLawTopH
set_option linter.unusedVariables false
namespace Go.Fk
open Go
theorem a8r {α:Type}{o:Option α}{m:α}(h: ∃t,o=some t∧t=m):o=some m:=by
 obtain⟨t,h1,h2⟩:=h
 rw [h1,h2]
def b56 (c:u5)(s:A7)(d:Nat)(q:r5)(m:Int):List B0:=if decide (1≤m)&&decide (m≤16) then (J0 (I4 c s d q)).take m.toNat else []
theorem a68 {c:u5}{s:A7}{d:Nat}{q:r5}: ∀{l:List y5},(l.Pairwise fun a b=>a.Id<b.Id)→(l.flatMap (a4J c s d q)).Nodup
 | [],_=>List.Pairwise.nil
 | x::r,h=>by
  obtain⟨h1,h2⟩:=List.pairwise_cons.1 h
  rw [List.flatMap_cons]
  have ih:=a68 (c:=c) (s:=s) (d:=d) (q:=q) h2
  unfold a4J
  split
  ·rw [List.singleton_append]
   refine List.nodup_cons.2 ⟨fun hm=>?_,ih⟩
   obtain⟨y,hy,hp⟩:=List.mem_flatMap.1 hm
   split at hp
   ·have he:=List.mem_singleton.1 hp
    have e:x.Id=y.Id:=congrArg B0.Doc he
    have:=h1 y hy
    omega
   ·cases hp
  ·exact ih
theorem a3q (c:u5)(s:A7)(d:Nat)(q:r5):(I4 c s d q).Nodup:=by
 unfold I4
 split
 ·rename_i ho
  exact a68 (a3J (a3V ho).2.1).2.2
 ·exact List.Pairwise.nil
theorem b04 (F:Nat)(m:Int):y9 F m 1 16=some (decide (1≤m)&&decide (m≤16)):=by
 unfold y9
 cases decide (1≤m)<;>rfl
theorem b8k (F:Nat)(m:Int):D7 F m 1 16=some (decide (1≤m)&&decide (m≤16)):=by
 unfold D7
 cases decide (1≤m)<;>rfl
theorem b0A (F:Nat){c:u5}{s:A7}{d:Nat}{q:r5}(m:Int)(hg:I8 d q)(hd:d≤4)(hl:s.Docs.length≤1000000)(hc:c.Stops.length≤2000000)(hF:1000000100<F):a02 F c s q m=some (b56 c s d q m):=by
 unfold a02 b56
 rw [b04,a8]
 cases hm:decide (1≤m)&&decide (m≤16) with
 | false=>rfl
 | true=>
  simp only [l8,decide_eq_true_eq] at hm
  have hlen:=a0S c s d q
  rw [l9,i6,a3K F hg hd hl hc hF,a8]
  obtain⟨k,rfl⟩: ∃k:Nat,m=(k:Int):=⟨m.toNat,by omega⟩
  rw [a9C F _ k (a3q c s d q) (by omega),a8,if_pos rfl,Int.toNat_natCast]
theorem c20 (F:Nat){c:u5}{s:A7}{d:Nat}{q:r5}(k:Nat)(ho:N0 c s=true)(hg:I8 d q)(hd:d≤4)(hs:Q2 s.Docs)(hc:a0B 100 c)(hF:1000000100<F):a0y F c s q (k:Int)=some ((J0 (I4 c s d q)).take k):=by
 have hfew:=a3g ho
 have hq:I4 c s d q=s.Docs.flatMap (a4J c s d q):=by
  unfold I4
  rw [if_pos ho]
 have hflen: ∀l:List y5,(l.flatMap (a4J c s d q)).length≤l.length:=fun l=>by
  have:=W3 (g:=a4J c s d q) (m:=1) l fun x _=>a9H c s d q x
  omega
 unfold a0y
 have hrun: ∀f:List B0×Int→Option ((List B0×Int)⊕List B0),(∀(i:Nat) (hi:i<s.Docs.length),f ((J0 ((s.Docs.take i).flatMap (a4J c s d q))).take k,(i:Int))=some (.inl ((J0 ((s.Docs.take (i+1)).flatMap (a4J c s d q))).take k,((i+1:Nat):Int))))→
   (∀x,f (x,(s.Docs.length:Int))=some (.inr x))→v8 f F ([],0)=some ((J0 (I4 c s d q)).take k):=fun f hf h0=>by
  refine a8r (H4 (Post:=fun r:List B0=>r=(J0 (I4 c s d q)).take k) (fun i (st:List B0×Int)=>st=((J0 ((s.Docs.take i).flatMap (a4J c s d q))).take k,(i:Int))) s.Docs.length (fun i st hi e=>?_) (fun st e=>?_) s.Docs.length 0 ([],0) F (by omega) (by omega) (by rw [List.take_zero];exact congrArg (·,(0:Int)) (List.take_nil).symm))
  ·subst e
   exact .inl ⟨_,hf i hi,rfl⟩
  ·subst e
   refine⟨_,h0 _,?_⟩
   rw [List.take_length,hq]
 rw [hrun _ (fun i hi=>?_) (fun x=>?_)]
 ·rfl
 ·have hx:s.Docs[i]∈s.Docs:=List.getElem_mem hi
  have hlen:=hflen (s.Docs.take i)
  rw [List.length_take] at hlen
  dsimp only
  rw [b8 (by omega),i9,a0m hi,a8,a6V c s s.Docs[i] ho hx hc (by have:=(hs.doc _ hx).nums;omega) hg hd F (by omega),a8,List.take_succ_eq_append_getElem hi,List.flatMap_append,List.flatMap_singleton,y2 (by omega)]
  by_cases h0:0<D1 c s d q s.Docs[i]
  ·have hh:a4J c s d q s.Docs[i]=[⟨s.Docs[i].Id,D1 c s d q s.Docs[i]⟩]:=by
    unfold a4J
    rw [b8 h0,if_pos rfl]
   have hln:((J0 ((s.Docs.take i).flatMap (a4J c s d q))).take k).length≤1000:=by
    rw [List.length_take,a2C]
    omega
   rw [b8 h0,i9,a8,b9w F _ _ k hln (by omega),a8,hh,b3M,b03]
  ·have hh:a4J c s d q s.Docs[i]=[]:=by
    unfold a4J
    rw [c6 h0,if_neg (by decide)]
   rw [c6 h0,i6,hh,List.append_nil]
 ·dsimp only
  rw [c6 (by omega)];rfl
theorem a36 (F:Nat)(l:List B0)(hl:l.length≤1000)(hF:2000<F):O3 F l l=some true:=by
 unfold O3
 rw [beq_self_eq_true,l9,i6,b5l (n:=l.length) F (by omega) (fun i hi=>?_) ?_]
 ·rfl
 ·rw [c6 (by omega)];rfl
 ·rw [b8 (by omega),i9,a0m hi,a8,a8,beq_self_eq_true,beq_self_eq_true,y2 (by omega)];rfl
end Go.Fk
