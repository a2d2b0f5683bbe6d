/-
  The best of what a question finds: few of them, and so many times. The laws, on the models.
-/
import Derived.Test.YtnloenhmkdpgeaaGreatDoorLawScoreT
import Derived.Test.YtnloenhmkdpgeaaGreatDoorLawTopH
import Derived.Test.YtnloenhmkdpgeaaGreatDoorLawBase
set_option linter.unusedVariables false
namespace Go.Fk
open Go
theorem c3i {α:Type}{o:Option α}{m:α}(h: ∃t,o=some t∧t=m):o=some m:=by
 obtain⟨t,h1,h2⟩:=h
 rw [h1,h2]
def a7h (c:u6)(s:A5)(d:Nat)(q:q7)(m:Int):List E3:=if decide (1≤m)&&decide (m≤16) then (I2 (G6 c s d q)).take m.toNat else []
theorem a7D {c:u6}{s:A5}{d:Nat}{q:q7}: ∀{l:List A1},(l.Pairwise fun a b=>a.Id<b.Id)→(l.flatMap (a3T c s d q)).Nodup
 | [],_=>List.Pairwise.nil
 | x::r,h=>by
  obtain⟨h1,h2⟩:=List.pairwise_cons.1 h
  rw [List.flatMap_cons]
  have ih:=a7D (c:=c) (s:=s) (d:=d) (q:=q) h2
  unfold a3T
  split
  ·rw [List.singleton_append]
   refine List.nodup_cons.2 ⟨fun hm=>?_,ih⟩
   obtain⟨y,hy,hp⟩:=List.mem_flatMap.1 hm
   split at hp
   ·have he:=List.mem_singleton.1 hp
    have e:x.Id=y.Id:=congrArg E3.Doc he
    have:=h1 y hy
    omega
   ·cases hp
  ·exact ih
theorem a8e (c:u6)(s:A5)(d:Nat)(q:q7):(G6 c s d q).Nodup:=by
 unfold G6
 split
 ·rename_i ho
  exact a7D (a0Q (a0w ho).2.1).2.2
 ·exact List.Pairwise.nil
theorem c1b (F:Nat)(m:Int):B3 F m 1 16=some (decide (1≤m)&&decide (m≤16)):=by
 unfold B3
 cases decide (1≤m)<;>rfl
theorem a4a (F:Nat){c:u6}{s:A5}{d:Nat}{q:q7}(m:Int)(hg:I3 d q)(hd:d≤4)(hl:s.Docs.length≤1000000)(hc:c.Stops.length≤2000000)(hF:1000000100<F):R3 F c s q m=some (a7h c s d q m):=by
 unfold R3 a7h
 rw [c1b,a8]
 cases hm:decide (1≤m)&&decide (m≤16) with
 | false=>rfl
 | true=>
  simp only [q8,decide_eq_true_eq] at hm
  have hlen:=a1y c s d q
  rw [l7,i6,b0v F hg hd hl hc hF,a8]
  obtain⟨k,rfl⟩: ∃k:Nat,m=(k:Int):=⟨m.toNat,by omega⟩
  rw [c1N F _ k (a8e c s d q) (by omega),a8,if_pos rfl,Int.toNat_natCast]
theorem a2r (F:Nat)(l:List E3)(hl:l.length≤1000)(hF:2000<F):M5 F l l=some true:=by
 unfold M5
 rw [beq_self_eq_true,l7,i6,b2T (n:=l.length) F (by omega) (fun i hi=>?_) ?_]
 ·rfl
 ·rw [c6 (by omega)];rfl
 ·rw [b8 (by omega),j4,T5 hi,a8,a8,beq_self_eq_true,beq_self_eq_true,y5 (by omega)];rfl
end Go.Fk
