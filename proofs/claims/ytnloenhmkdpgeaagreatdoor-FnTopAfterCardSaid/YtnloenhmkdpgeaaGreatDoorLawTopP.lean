/-
  The best of those that are of a kind. Lists, and the reference's loop.
-/
import Derived.Test.YtnloenhmkdpgeaaGreatDoorLawTopR
set_option linter.unusedVariables false
namespace Go.Fk
open Go
def c8m (c:u6)(s:A5)(d:Nat)(q:q7)(x:A1):E3:=⟨x.Id,C2 c s d q x⟩
def a6m (c:u6)(s:A5)(d:Nat)(q:q7)(p:E3→Bool)(l:List A1):List E3:=(l.flatMap (a3T c s d q)).filter p
theorem c9m (c:u6)(s:A5)(d:Nat)(q:q7)(p:E3→Bool)(l:List A1):(a6m c s d q p l).length≤l.length:=by
 have h1:=Z4 (g:=a3T c s d q) (m:=1) l fun x _=>b3x c s d q x
 have h2:=List.length_filter_le p (l.flatMap (a3T c s d q))
 unfold a6m;omega
theorem c8W (c:u6)(s:A5)(d:Nat)(q:q7)(p:E3→Bool)(l:List A1)(x:A1):a6m c s d q p (l++[x])=a6m c s d q p l++if decide (0<C2 c s d q x)&&p (c8m c s d q x) then [c8m c s d q x] else []:=by
 unfold a6m
 rw [List.flatMap_append,List.flatMap_singleton,List.filter_append]
 congr 1
 unfold a3T
 by_cases h:0<C2 c s d q x
 ·rw [b8 h,if_pos rfl,u5]
  show [c8m c s d q x].filter p=_
  cases hp:p (c8m c s d q x) with
  | true=>rw [List.filter_cons_of_pos hp,if_pos rfl];rfl
  | false=>rw [List.filter_cons_of_neg (by rw [hp];decide),if_neg (by decide)];rfl
 ·rw [c6 h,if_neg (by decide),Bool.false_and,if_neg (by decide)];rfl
theorem c9l {c:u6}{s:A5}(ho:G9 c s=true)(d:Nat)(q:q7)(p:E3→Bool):a6m c s d q p s.Docs=(G6 c s d q).filter p:=by
 unfold a6m G6
 rw [if_pos ho]
theorem c9K (F:Nat){c:u6}{s:A5}(d:Nat)(q:q7)(p:E3→Bool)(k:Nat){i:Nat}(hi:i<s.Docs.length)(hl:s.Docs.length≤1000)(hF:2000<F):
  (if decide (0<C2 c s d q s.Docs[i])&&p (c8m c s d q s.Docs[i]) then a2P F ((I2 (a6m c s d q p (s.Docs.take i))).take k) (c8m c s d q s.Docs[i]) (k:Int) else some ((I2 (a6m c s d q p (s.Docs.take i))).take k))=some ((I2 (a6m c s d q p (s.Docs.take (i+1)))).take k):=by
 have h1:=c9m c s d q p (s.Docs.take i)
 rw [List.length_take] at h1
 rw [List.take_succ_eq_append_getElem hi,c8W]
 split
 ·have hln:((I2 (a6m c s d q p (s.Docs.take i))).take k).length≤1000:=by
   rw [List.length_take,a4e];omega
  rw [c3n F _ _ k hln hF,b8B,b5r]
 ·rw [List.append_nil]
theorem c9F (F:Nat){c:u6}{s:A5}(ho:G9 c s=true)(d:Nat)(q:q7)(p:E3→Bool)(k:Nat)(hl:s.Docs.length≤1000)(hF:2000<F){f:List E3×Int→Option ((List E3×Int)⊕List E3)}
  (hf: ∀(i:Nat) (hi:i<s.Docs.length),f ((I2 (a6m c s d q p (s.Docs.take i))).take k,(i:Int))=(if decide (0<C2 c s d q s.Docs[i])&&p (c8m c s d q s.Docs[i]) then a2P F ((I2 (a6m c s d q p (s.Docs.take i))).take k) (c8m c s d q s.Docs[i]) (k:Int) else some ((I2 (a6m c s d q p (s.Docs.take i))).take k)).bind fun r=>some (.inl (r,((i+1:Nat):Int))))
  (h0: ∀x,f (x,(s.Docs.length:Int))=some (.inr x)):y2 f F ([],0)=some ((I2 ((G6 c s d q).filter p)).take k):=by
 refine c3i (I7 (Post:=fun r:List E3=>r=(I2 ((G6 c s d q).filter p)).take k) (fun i (st:List E3×Int)=>st=((I2 (a6m c s d q p (s.Docs.take i))).take k,(i:Int))) s.Docs.length (fun i st hi e=>?_) (fun st e=>?_) s.Docs.length 0 ([],0) F (by omega) (by omega) (by rw [List.take_zero];exact congrArg (·,(0:Int)) (List.take_nil).symm))
 ·subst e
  refine .inl ⟨_,?_,rfl⟩
  rw [hf i hi,c9K F d q p k hi hl hF,a8]
 ·subst e
  refine⟨_,h0 _,?_⟩
  rw [List.take_length,c9l ho]
theorem c9V (F:Nat)(p:E3→Bool)(m:Nat)(L:List E3)(hl:L.length≤1000)(hF:2000<F){f:List E3×Int→Option ((List E3×Int)⊕List E3)}
  (hf: ∀(i:Nat) (x:E3) (acc:List E3),L[i]? =some x→acc.length<m→acc.length≤1000→f (acc,(i:Int))=some (.inl (acc++(if p x then [x] else []),((i+1:Nat):Int))))
  (h1: ∀(i:Nat) (acc:List E3),¬acc.length<m→i≤L.length→f (acc,(i:Int))=some (.inr acc))(h0: ∀acc,f (acc,(L.length:Int))=some (.inr acc)):y2 f F ([],0)=some ((L.filter p).take m):=by
 have hsn: ∀(i:Nat) (hi:i<L.length),(L.take (i+1)).filter p=(L.take i).filter p++if p L[i] then [L[i]] else []:=fun i hi=>by
  rw [List.take_succ_eq_append_getElem hi,List.filter_append]
  congr 1
  cases hp:p L[i] with
  | true=>rw [List.filter_cons_of_pos hp,if_pos rfl];rfl
  | false=>rw [List.filter_cons_of_neg (by rw [hp];decide),if_neg (by decide)];rfl
 have hle: ∀i,((L.take i).filter p).length≤1000:=fun i=>by
  have h1:=List.length_filter_le p (L.take i)
  rw [List.length_take] at h1;omega
 refine c3i (I7 (Post:=fun r:List E3=>r=(L.filter p).take m) (fun i (st:List E3×Int)=>st=(((L.take i).filter p).take m,(i:Int))) L.length (fun i st hi e=>?_) (fun st e=>?_) L.length 0 ([],0) F (by omega) (by omega) (by rw [List.take_zero];exact congrArg (·,(0:Int)) (List.take_nil).symm))
 ·subst e
  by_cases hm:((L.take i).filter p).length<m
  ·have e1:((L.take i).filter p).take m=(L.take i).filter p:=List.take_of_length_le (by omega)
   refine .inl ⟨_,?_,rfl⟩
   rw [e1,hf i L[i] _ (j8 hi) hm (hle i),hsn i hi]
   have e2:((L.take i).filter p++if p L[i] then [L[i]] else []).take m=(L.take i).filter p++if p L[i] then [L[i]] else []:=by
    refine List.take_of_length_le ?_
    rw [o0]
    split
    ·rw [l8];omega
    ·rw [List.length_nil];omega
   rw [e2]
  ·refine .inr ⟨_,h1 i _ ?_ (by omega),?_⟩
   ·rw [List.length_take];omega
   ·have hsplit:L.filter p=(L.take i).filter p++(L.drop i).filter p:=by rw [←List.filter_append,List.take_append_drop]
    rw [hsplit,List.take_append_of_le_length (by omega)]
 ·subst e
  refine⟨_,h0 _,?_⟩
  rw [List.take_length]
end Go.Fk
